/-
  Laws that the claims of this seat use, of several texts in one. No condition of their own.
-/
import Derived.Test.YtggbbafanhceaaaGreatRRJ48
set_option maxRecDepth 100000
set_option maxHeartbeats 8000000
set_option linter.all false
namespace Go.Proofs.YtggbbafanhceaaaGreatRR
section
open Go.ChangeShapes Go.WideShapes Go.ChangeAt Go.RowKit
attribute [local irreducible] wpList wpListIn Oper.quietAt wpM
section
attribute [local irreducible] shaL tagL
instance instLw3_1:StT Tryz.prog 67 [(0,1),(1,1),(2,128),(130,1)] ([.int .i64 0,.int .i64 0]++((zs 128).map bv++[.bool false])):=⟨by kernel_rfl⟩
theorem line_built{u m:Int}{X:List UInt8}(hX:X.length=128):Tryz.prog.built 67 [(0,.int .i64 u),(1,.int .i64 m),(2,.agg (bvs X))]=some (lnV u m X false):=by
 refine A0u (pl:=[(0,1),(1,1),(2,128),(130,1)]) (z:=[.int .i64 0,.int .i64 0]++((zs 128).map bv++[.bool false])) G7 (A0E (cs:=[.int .i64 u,.int .i64 m]++(X.map bv++[.bool false])) (.one (off:=0) rfl rfl I1 rfl (.one (off:=1) rfl rfl I1 rfl (.row (off:=2) (n:=128) rfl (by rw[I5,hX]) (by simp[zs_len]) ?_ .nil))))
 show [Value.int .i64 u,.int .i64 m]++(bvs X).toList++List.drop 128 ((zs 128).map bv++[.bool false])=_
 rw[A5T (by simp[zs_len]),A4H]
 rfl
theorem cell7_built:Tryz.prog.built 39 [(0,.int .u8 7)]=some (bvs (7::zs 127)):=by kernel_rfl
theorem Opened.move{rd:Rdr}{w00:World}{g:G4}{N:Nat}{co:List Int}{cn:Int}{b:Nat}{key:List UInt8}{U:Nat→List UInt8}{L:List Blk}{V ct:Nat}{T:Nat→List UInt8}{su:List UInt8}{hv lv kv:Value}{M:List UInt8}{tv:Nat→Value}{Lx Ly:List Blk}{w w':World}(h:Opened rd w00 g N co cn b key U L V ct T su hv lv kv M tv Lx w)(hs:∀x∈Lx,x∈Ly)(hd:Dk rd w00 g Fon N su [] (co.set cn.toNat (ct:Int)) w' ((V,vC g.P cn (b:Int) hv lv kv (ct:Int) M (tv 0) (tv 1) false,87)::Ly)):Opened rd w00 g N co cn b key U L V ct T su hv lv kv M tv Ly w' :=
 ⟨fun x hx=>hs x (h.sub x hx),h.bh.mono hs,h.bl.mono hs,fun k hk=>(h.tr k hk).mono hs,h.inv,hd⟩
theorem Inv.keysOf{su:List UInt8}{N b:Nat}{hk wk:List UInt8}{ct:Nat}{M:List UInt8}{T U:Nat→List UInt8}(h:Inv su N b hk wk ct M T U){k:Nat}(hk2:k<2):dataK M k=sl (U k) 0 32∧markK M k=sl (U k) 32 32:=by
 rw[←h.keys k hk2,Z0 H9,Z0 H9]
 exact⟨rfl,by unfold markK;congr 1;omega⟩
def dk1:List UInt8:=sl (frL 0 128) 64 32
def mk1:List UInt8:=sl (frL 0 128) 96 32
theorem unit_one:sl (unitU 1) 0 32=dk1∧sl (unitU 1) 32 32=mk1:=by
 unfold unitU
 rw[Z0 H9,Z0 H9]
 exact⟨rfl,rfl⟩
theorem read_seven{su0 su:List UInt8}{N b:Nat}{hk wk:List UInt8}{c0 ct:Nat}{M0 M:List UInt8}(h0:Inv su0 N b hk wk c0 M0 (fun _=>zs 1024) unitU)(h:Inv su N b hk wk ct M (lnsT M0 (fun _=>zs 1024) [(1,3,7::zs 127)]) unitU){C:List UInt8}(hC:C=hideV (dataK M0 1) 3 (7::zs 127)) :
  readV M (lnsT M0 (fun _=>zs 1024) [(1,3,7::zs 127)] 1) C 1 3=okR (7::zs 127):=by
 obtain⟨d0,m0⟩:=h0.keysOf (k:=1) H9
 obtain⟨d1,m1⟩:=h.keysOf (k:=1) H9
 rw[unit_one.1] at d0 d1
 rw[unit_one.2] at m0 m1
 have hT:lnsT M0 (fun _=>zs 1024) [(1,3,7::zs 127)] 1=climbL mk1 (zs 1024) 3 (leafL mk1 3 (hideV dk1 3 (7::zs 127))):=by
  show updF (fun _=>zs 1024) 1 _ 1=_
  rw[A1I]
  show climbL (markK M0 1) _ 3 (leafL (markK M0 1) 3 (hideV (dataK M0 1) 3 _))=_
  rw[d0,m0]
 have hr:=h.roots 1 H9
 rw[d0] at hC
 have ls:leafL mk1 3 (hideV dk1 3 (7::zs 127))≠zs 32:=leaf_seen
 have hcl:∀leaf:List UInt8,leaf.length=32→nd (climbL mk1 (zs 1024) 3 leaf) (16+3)=leaf:=fun leaf hl=>by
  rw[climbL_leaf (b:=3) (c:=3) (zs_len 1024) H9 hl H9,if_pos rfl]
 have hsame:∀leaf:List UInt8,leaf.length=32→climbL mk1 (climbL mk1 (zs 1024) 3 leaf) 3 leaf=climbL mk1 (zs 1024) 3 leaf:=fun leaf hl=>by
  have:=climbL_same (mk:=mk1) (b:=3) (A2b (b:=3) (zs_len 1024) H9 hl) H9 (climb_proper (b:=3) (zs_len 1024) H9 hl (proper_zs mk1))
  rwa [hcl leaf hl] at this
 have hsh:showV dk1 3 (hideV dk1 3 (7::zs 127))=7::zs 127:=showV_hideV (.inl (sl_len (by rw[frL_len];omega))) 3 (by simp[zs_len])
 unfold readV
 rw[hT] at hr ⊢
 rw[hC,d1,m1,hsh]
 generalize hideV dk1 3 (7::zs 127)=HX at *
 have ll:=A0M mk1 3 HX
 generalize leafL mk1 3 HX=LF at *
 rw[hcl LF ll,if_neg ls,hsame LF ll,if_pos (by rw[hr])]
theorem good_seven:∀x∈[((1:Int),(3:Int),(7::zs 127:List UInt8))],goodLn x:=fun x hx=>by
 rw[A5F] at hx
 subst hx
 exact⟨⟨by dsimp only;omega,by dsimp only;omega⟩,by dsimp only;omega,by dsimp only;omega⟩
theorem alive_any(w0:World):Calls Tryz.prog 7 #[] w0 fun e w'=>e=.returned (.bool true)∧Below w0.heap.size w0 w':=by
 obtain⟨rd,hrd⟩:=rdCel_exists
 have lk:keyL1.length=32:=X5 _ _
 have l7:(7::zs 127:List UInt8).length=128:=by rw[A4J,zs_len]
 have hlb:=line_built (u:=1) (m:=3) l7
 have hgs:=good_seven
 have hrs:=fun {su0 su:List UInt8} {c0 ct:Nat} {M0 M:List UInt8} (h0:Inv su0 130 3 (secH keyL1) (secW keyL1) c0 M0 (fun _=>zs 1024) unitU) (h:Inv su 130 3 (secH keyL1) (secW keyL1) ct M (lnsT M0 (fun _=>zs 1024) [(1,3,7::zs 127)]) unitU) {C:List UInt8} hC=>read_seven h0 h (C:=C) hC
 have hS:=St.start w0
 have c7:=cell7_built
 have s7:=A4b (u:=1) (m:=3) (d:=false) l7
 obtain⟨X7,hX7⟩:∃x,(7::zs 127:List UInt8)=x:=⟨_,rfl⟩
 rw[hX7] at hlb l7 c7 s7 hgs hrs
 have hln:(lnV 1 3 X7 false).toList=[((1:Int),(3:Int),X7)].flatMap lnC:=by unfold lnV midC lnC;simp
 have s8:(lnV 1 3 X7 false).size=131:=by rw[←L6];exact s7
 obtain⟨LV,hLV⟩:∃x,lnV 1 3 X7 false=x:=⟨_,rfl⟩
 rw[hLV] at hlb s7 s8 hln
 have hxs:=fun M:List UInt8=>(show lastP ([((1:Int),(3:Int),X7)].map (lnP M)) ((96:Nat):Int)=some ((96:Int),hideV (dataK M 1) 3 X7) from rfl)
 have sX7:csz (bvs X7)=128:=by rw[I5,l7]
 go_enter Tryz.func7,Tryz.ntmps7
 repeat' (first|refine Zasm ?_|(refine Zks ?_;clear hS;intro b w hS)|(refine Ztsm ?_;clear hS;intro w hS)|(refine Zc ?_ ?_<;>intro hc)|(refine Zg ?_;first|go_step|go_step3|refine Zr ?_)|fail)
 refine J3 I3 I2 I2 I2 I2 I2 G7 (made_any hrd) ?_
 clear hS
 rintro e w1 ⟨g,V,su,hv,lv,kv,M,tv,Lx,rfl,hO⟩
 refine⟨_,rfl,?_⟩
 have hS:=hO.dk
 refine I4 ?_
 repeat' (first|((with_reducible refine cons_list ?_);first|(refine Stp.go I3 I2 I2 (O3 I2 I2 c7) ?_;refine I4 ?_)|(refine Stp.go I3 I2 I2 (O3 I2 I2 hlb) ?_;refine I4 ?_))|refine ZaKm ?_|(refine ZkK ?_;clear hS;intro b w hS)|(refine ZtKm ?_;clear hS;intro w hS)|(refine Zc ?_ ?_<;>intro hc)|(refine Zg ?_;first|go_step|go_step3|refine Zr ?_)|fail)
 have hS2:=own_dk.front hS (i:=1) rfl
 simp only[A5i,A5h] at hS2
 have hO2:=hO.move (fun x hx=>A4B _ hx) hS2
 have hLM:LinesM ((b,LV.toList.toArray,67)::Lx) (.slice (some ⟨b,0,none⟩) 1 1) [(1,3,X7)]:=⟨fun x hx=>(by
  rw[A5F] at hx
  subst hx
  exact⟨l7,⟨by dsimp only;omega,by dsimp only;omega⟩,by dsimp only;omega,by dsimp only;omega⟩),.inr ⟨b,0,1,_,_,rfl,by simp,A4w ..,fun j x hj=>by rw[A4G,A4y,hln];exact hj⟩⟩
 refine J3 I3 I2 I2 I2 I2 I2 G7 (opened_commit hrd ⟨by omega,by decide⟩ H9 hO2 hLM I1) ?_
 clear hS hS2 hO2
 rintro e w3 (⟨err,Ly,rfl,_,hbad⟩|⟨su2,M2,tv2,Ly,R,tl,rfl,hO3,_,_,hRin,hRs,htl,hput,hblk⟩)
 ·exfalso
  rcases hbad with h|h
  ·exact h hgs
  ·simp at h
 refine⟨_,rfl,?_⟩
 have hS:=hO3.dk
 refine I4 ?_
 repeat' (first|refine ZaKm ?_|(refine ZkK ?_;clear hS;intro b w hS)|(refine ZtKm ?_;clear hS;intro w hS)|(refine Zc ?_ ?_<;>intro hc)|(refine Zg ?_;first|go_step|go_step3|refine Zr ?_)|fail)
 refine J3 I3 I2 I2 I2 I2 I2 G7 (crash_on hrd hS) ?_
 clear hS
 rintro e w4 ⟨rfl,hS⟩
 refine⟨_,rfl,?_⟩
 refine I4 ?_
 repeat' (first|refine ZaKm ?_|(refine ZkK ?_;clear hS;intro b w hS)|(refine ZtKm ?_;clear hS;intro w hS)|(refine Zc ?_ ?_<;>intro hc)|(refine Zg ?_;first|go_step|go_step3|refine Zr ?_)|fail)
 refine J3 I3 I2 I2 I2 I2 I2 G7 (key_any _) ?_
 rintro e w5 ⟨gk2,rfl,q1,q2,q3⟩
 refine⟨_,rfl,?_⟩
 replace hS:=own_dk.new hS q3 q1 q2
 clear q1 q2 q3
 refine I4 ?_
 repeat' (first|refine ZaKm ?_|(refine ZkK ?_;clear hS;intro b w hS)|(refine ZtKm ?_;clear hS;intro w hS)|(refine Zc ?_ ?_<;>intro hc)|(refine Zg ?_;first|go_step|go_step3|refine Zr ?_)|fail)
 obtain⟨hst2,hpd⟩:=hO3.inv.start2 hRin hRs htl
 refine J3 I3 I2 I2 I2 I2 I2 G7 (open_ok (cn:=1) (ba:=3) hrd hS ⟨by omega,by decide⟩ lk (A2a lk (A4w ..)) 4 2 H9 rfl hO3.inv (.inr rfl) hst2 (fun _=>by rw[hpd];exact hput)) ?_
 clear hS hst2 hpd hput htl hRs hRin
 rintro e w6 ⟨V2,su3,hv2,lv2,kv2,M3,tv3,Lz,rfl,hO4,hb4⟩
 refine⟨_,rfl,?_⟩
 have hS:=hO4.dk
 have hC:celX su3 (3+(69+24*1+3))=hideV (dataK M 1) 3 X7:=by
  have e1:=hb4 96 (.inr ⟨by omega,by omega⟩)
  have e2:=hblk 96 (.inr ⟨by omega,by omega⟩)
  rw[hxs] at e2
  exact e1.trans e2
 have hrv:=hrs hO.inv hO4.inv hC
 clear hC hb4 hblk hrs
 have hok:=hS.ok
 have hct:∀w X,Dk rd w0 g Fon 130 su3 [] (([0,0].set (Int.toNat 1) ((3+1:Nat):Int)).set (Int.toNat 1) ((4+2:Nat):Int)) w X→Calls Tryz.prog 12 #[.pointer (some ⟨g.P,0,none⟩),.int .i64 1] w fun e w'=>e=.returned (.tuple #[.int .i64 6,.nilIface])∧Below w.heap.size w w':=fun w X h=>by
  obtain⟨ar,lf,dn,st,hP,hC⟩:=h.blkP
  exact A1l (w0:=w) (p:=g.P) (ar:=ar) (dn:=dn) (lf:=lf) (st:=st) (S:=g.S) (C:=g.C) (B:=g.B) (N:=130) (fr:=(0,0)) (ty:=109) (ty2:=3) hok.2.2.2.1.2 1 hP hC
 refine I4 ?_
 repeat' (first|refine ZaKm ?_|(refine ZkK ?_;clear hS;intro b w hS)|(refine ZtKm ?_;clear hS;intro w hS)|(refine Zc ?_ ?_<;>intro hc)|((with_reducible refine cons_list ?_);first|(refine Stp.go I3 I2 I2 (A2o I2 I2 Tryz.underlying30) ?_;refine I4 ?_))|(refine Zg ?_;first|go_step|go_step3|refine Zr ?_)|fail)
 have hrd1:=vread_ok (k:=1) (m:=3) hrd hS hO4.inv.mlen (A4w ..) hO4.inv.fit H9 H9 ((hO4.tr 1 H9).mono (fun x hx=>A4B _ hx))
 rw[hrv,show okR X7=.tuple #[.agg (bvs X7),.nilIface] from rfl] at hrd1
 (refine J2 I3 own_dk hS (hrd1) ?_;clear hS;intro w hS;refine I4 ?_)
 clear hrd1 hrv
 repeat' (first|((with_reducible refine cons_list ?_);first|(refine J2 I3 own_dk hS (hct _ _ hS) ?_;clear hS;intro w hS;refine I4 ?_)|(refine Stp.go I3 I2 I2 (O3 I2 I2 c7) ?_;refine I4 ?_)|(refine Stp.go I3 I2 I2 (r_eqAB (n:=128) I2 I2 I2 H6 H6 l7 l7 (show (X7 == X7)=true by simp)) ?_;refine I4 ?_))|refine ZaKm ?_|(refine ZkK ?_;clear hS;intro b w hS)|(refine ZtKm ?_;clear hS;intro w hS)|(refine Zc ?_ ?_<;>intro hc)|(refine Zg ?_;first|go_step|go_step3|refine Zr ?_)|fail)
 go_ret
 exact⟨rfl,hS.below⟩
end
section
attribute [local irreducible] tagL
end
section
attribute [local irreducible] tagL
theorem r_neAB{P:Program}{o:Oper}{a:Act}{w:World}{t t' n:Nat}{x y:Operand}{l m:List UInt8}{q:Bool}(hop:o.op=.binOp .neq t x y t')(hx:evO a x=some (.agg (bvs l)))(hy:evO a y=some (.agg (bvs m)))(hb:isBytes P t n=true)(hg:P.eqGuardType P.depth t=false)(hl:l.length=n)(hm:m.length=n)(hq:(!(l == m))=q):(execOp a.eval o).run P w=.ok (.value (.bool q)) w:=by
 unfold execOp;rw[hop];subst hq
 simp only[I6 hx,I6 hy,Sem.run_bind,run_eqGuard_agg w .neq t x y _ _ hg,Result.andThen_ok,run_neq_struct,Z4 hb l m (by rw[I5,hl]) (by rw[I5,hm]) w]
 rfl
theorem head_is{C:List UInt8}(hC:C.length=128)(key:List UInt8)(h0:0≤cntL C):headC key (cntL C).toNat (restL C)=C↔tagL key (C.take 96)=C.drop 96:=by
 have l8:(C.take 8).length=8:=by rw[A4x];omega
 have h1:=beN_lt (C.take 8)
 rw[l8] at h1
 have h3:(256:Nat) ^ 8=18446744073709551616:=by decide +kernel
 rw[h3] at h1
 have h2:(cntL C).toNat=beN (C.take 8):=by
  unfold cntL wrap64 at h0 ⊢
  clear l8
  generalize beN (C.take 8)=x at *
  omega
 have h4:=A3q (C.take 8)
 rw[l8] at h4
 have h5:headT (cntL C).toNat (restL C)=C.take 96:=by
  unfold headT restL
  rw[h2,h4,show 96=8+88 by omega,A6N]
 unfold headC
 rw[h5]
 constructor
 ·intro h
  conv at h=>rhs;rw[←A4O 96 C]
  exact List.append_cancel_left h
 ·intro h
  rw[h,A4O]
end
section
attribute [local irreducible] tagL headC hdRes cntL restL
end
section
theorem hd_partI{P:Program}{t:TypeId}{k:IntKind}(hu:P.underlying t=some (.int k))(n:Int)(B:List UInt8)(w:World):(part t (hdV n B) 0).run P w=.ok (.int .i64 n) w:=by
 have hagg:(isAgg t).run P w=.ok false w:=by unfold isAgg;simp[run_underlying hu]
 simp[part,Sem.run_bind,hagg,hdV]
theorem hd_partB{P:Program}{t m e q:Nat}(hu:P.underlying t=some (.array q e))(hs:(P.info? t).map (·.size)=some m)(n:Int)(B:List UInt8)(o:Nat)(w:World):(part t (hdV n B) (1+o)).run P w=.ok (.agg (bvs ((B.drop o).take m))) w:=by
 have hagg:(isAgg t).run P w=.ok true w:=by unfold isAgg;simp[run_underlying hu]
 have hex:(hdV n B).extract (1+o) (1+o+m)=bvs ((B.drop o).take m):=by
  apply Array.ext'
  unfold bvs hdV
  simp only[List.extract_toArray,A5O]
  rw[show 1+o=o+1 by omega,List.drop_succ_cons,A6d,A6i,show o+1+m - (o+1)=m by omega]
 unfold part
 simp only[Sem.run_bind,hagg,Result.andThen_ok,if_true,M8 hs,hex]
 rfl
theorem rows_refl{P:Program}{t e m e2:Nat}{w:World}(hu:P.underlying t=some (.array 2 e))(hu2:P.underlying e=some (.array m e2))(hs:(P.info? e).map (·.size)=some m)(D:Nat)(hin:∀x:List UInt8,x.length=m→(Op.equalIn D e (.agg (bvs x)) (.agg (bvs x))).run P w=.ok true w)(l:List UInt8)(hl:l.length=2*m) :
  (Op.equalIn (D+1) t (.agg (bvs l)) (.agg (bvs l))).run P w=.ok true w:=by
 have hagg:(isAgg e).run P w=.ok true w:=by unfold isAgg;simp[run_underlying hu2]
 have hp:∀off,off+m≤l.length→∃x:List UInt8,x.length=m∧(part e (bvs l) off).run P w=.ok (.agg (bvs x)) w:=fun off ho=>by
  refine⟨(l.drop off).take m,by rw[A4x,A4N];omega,?_⟩
  have hex:(bvs l).extract off (off+m)=bvs ((l.drop off).take m):=by
   apply Array.ext'
   unfold bvs
   simp[A5O,A6i,A6d]
  unfold part
  simp only[Sem.run_bind,hagg,Result.andThen_ok,if_true,M8 hs,hex]
  rfl
 obtain⟨x0,l0,p0⟩:=hp (0*m) H9
 obtain⟨x1,l1,p1⟩:=hp (1*m) H9
 simp only[Op.equalIn,Sem.run_bind,run_underlying hu,Result.andThen_ok,M8 hs,Std.Legacy.Range.forIn_eq_forIn_range',Std.Legacy.Range.size,A5H,Nat.add_sub_cancel,Nat.div_one]
 simp only[List.range'_succ,List.range'_zero,List.forIn_cons,List.forIn_nil,Sem.run_bind,p0,p1,hin _ l0,hin _ l1,Result.andThen_ok,A4G,Bool.not_true,Bool.false_eq_true,if_false,Sem.run_pure]
theorem hd_refl{P:Program}{t e e2 e3:Nat}{w:World}{f1 f2 f3:Field}(hf:P.underlying t=some (.struct #[f1,f2,f3]))(hh:P.stoodInHeld t=false) (h1:f1.name ≠ "_") (h2:f2.name ≠ "_") (h3:f3.name ≠ "_") (o1:f1.offset=0) (o2:f2.offset=1) (o3:f3.offset=65)
  (i1:P.underlying f1.type=some (.int .i64)) (i2:P.underlying f2.type=some (.array 2 e)) (s2:(P.info? f2.type).map (·.size)=some 64) (i2':P.underlying e=some (.array 32 e2)) (s2':(P.info? e).map (·.size)=some 32) (s2'':(P.info? e2).map (·.size)=some 1) (he2:P.underlying e2=some (.int .u8))
  (i3:P.underlying f3.type=some (.array 24 e3)) (s3:(P.info? f3.type).map (·.size)=some 24) (s3':(P.info? e3).map (·.size)=some 1) (he3:P.underlying e3=some (.int .u8)) (D:Nat) (n:Int) (B:List UInt8) (hB:B.length=88) :
  (Op.equalIn (D+1+1+1+1) t (.agg (hdV n B)) (.agg (hdV n B))).run P w=.ok true w:=by
 have hq:P.fieldsOf t=#[f1,f2,f3]:=by unfold Program.fieldsOf;rw[hf]
 rw[run_equalIn_agg w (D+1+1+1) t _ _ (by rw[hq];exact hf) hh,hq]
 have p1:=hd_partI i1 n B w
 have p2:=hd_partB i2 s2 n B 0 w
 have p3:=hd_partB i3 s3 n B 64 w
 rw[show 1+0=1 from rfl] at p2
 rw[show 1+64=65 from rfl] at p3
 have q1:=run_equalIn_int w (D+1+1) f1.type .i64 .i64 n n i1
 have q2:=rows_refl (w:=w) i2 i2' s2' (D+1+1) (fun x hx=>by
  have:=A0b i2' s2'' he2 (D+1) (fun a b w=>run_equalIn_int w D e2 .u8 .u8 a b he2) x x hx hx w
  rw[this];simp) ((B.drop 0).take 64) D4
 have q3:=A0b i3 s3' he3 (D+1+1) (fun a b w=>run_equalIn_int w (D+1) e3 .u8 .u8 a b he3) ((B.drop 64).take 24) ((B.drop 64).take 24) D4 D4 w
 simp only[Op.eqFields,if_pos h1,if_pos h2,if_pos h3,o1,o2,o3,Sem.run_bind,p1,p2,p3,q1,q2,q3,Result.andThen_ok,beq_self_eq_true,Bool.not_true,Bool.false_eq_true,if_false,Sem.run_pure]
theorem eqHead(n:Int)(B:List UInt8)(hB:B.length=88)(w:World):(Op.equalIn 10000 49 (.agg (hdV n B)) (.agg (hdV n B))).run Tryz.prog w=.ok true w :=
 hd_refl Tryz.underlying49 H6 H8 H8 H8 rfl rfl rfl Tryz.underlying3 Tryz.underlying46 H6 Tryz.underlying45 H6 H6 Tryz.underlying5 Tryz.underlying47 H6 H6 Tryz.underlying5 9996 n B hB
theorem r_neH{t':Nat}{o:Oper}{a:Act}{w:World}{x y:Operand}{n:Int}{B:List UInt8}(hB:B.length=88)(hop:o.op=.binOp .neq 49 x y t')(hx:evO a x=some (.agg (hdV n B)))(hy:evO a y=some (.agg (hdV n B)))(hg:Tryz.prog.eqGuardType Tryz.prog.depth 49=false):(execOp a.eval o).run Tryz.prog w=.ok (.value (.bool false)) w:=by
 unfold execOp;rw[hop]
 simp only[I6 hx,I6 hy,Sem.run_bind,run_eqGuard_agg w .neq _ x y _ _ hg,Result.andThen_ok,run_neq_struct,eqHead n B hB w]
 rfl
end
section
attribute [local irreducible] encL
end
section
theorem r_neBo{P:Program}{o:Oper}{a:Act}{w:World}{t t':TypeId}{x y:Operand}{m n q:Bool}(hop:o.op=.binOp .neq t x y t')(hx:evO a x=some (.bool m))(hy:evO a y=some (.bool n))(ht:P.underlying t=some .bool)(hq:(!(m == n))=q):(execOp a.eval o).run P w=.ok (.value (.bool q)) w:=by
 unfold execOp;rw[hop];subst hq
 have h:=run_equalIn_bool (P:=P) w 9999 t m n ht
 simp[I6 hx,I6 hy,eqGuard,binOp,Op.equal,Op.maxDepth,h]
end
end
section
open Go.ChangeShapes Go.WideShapes Go.ChangeAt Go.RowKit
theorem i64_of{n:Int}(wf:(Lit.int .i64 n).wf=true):i64R n:=by
 have q1:IntKind.i64.min = -9223372036854775808:=rfl
 have q2:IntKind.i64.max=9223372036854775807:=rfl
 simp only[Lit.wf,A4S,decide_eq_true_eq] at wf
 unfold i64R
 omega
end
end Go.Proofs.YtggbbafanhceaaaGreatRR
