/-
  Laws that the claims of this seat use, of several texts in one. No condition of their own.
-/
import Derived.Test.YtggbbafanhceaaaGreatRRL44
set_option maxRecDepth 100000
set_option maxHeartbeats 8000000
set_option linter.all false
namespace Go.Proofs.YtggbbafanhceaaaGreatRR
section
open Go.ChangeShapes Go.WideShapes Go.ChangeAt Go.RowKit
attribute [local irreducible] wpList wpListIn Oper.quietAt wpM
section
attribute [local irreducible] shaL tagL
instance(priority:=2000) instLw3_1:StT Tryz.prog 67 [(0,1),(1,1),(2,128),(130,1)] ([.int .i64 0,.int .i64 0]++((zs 128).map bv++[.bool false])):=⟨by kernel_rfl⟩
theorem line_built{u m:Int}{X:List UInt8}(hX:X.length=128):Tryz.prog.built 67 [(0,.int .i64 u),(1,.int .i64 m),(2,.agg (bvs X))]=some (lnV u m X false):=by
 refine A0z (pl:=[(0,1),(1,1),(2,128),(130,1)]) (z:=[.int .i64 0,.int .i64 0]++((zs 128).map bv++[.bool false])) G2 (A0C (cs:=[.int .i64 u,.int .i64 m]++(X.map bv++[.bool false])) (.one (off:=0) rfl rfl H7 rfl (.one (off:=1) rfl rfl H7 rfl (.row (off:=2) (n:=128) rfl (by rw[I2,hX]) (by simp[zs_len]) ?_ .nil))))
 show [Value.int .i64 u,.int .i64 m]++(bvs X).toList++List.drop 128 ((zs 128).map bv++[.bool false])=_
 rw[A5P (by simp[zs_len]),A4E]
 rfl
theorem cell7_built:Tryz.prog.built 39 [(0,.int .u8 7)]=some (bvs (7::zs 127)):=by kernel_rfl
theorem Opened.move{rd:Rdr}{w00:World}{g:G4}{N:Nat}{co:List Int}{cn:Int}{b:Nat}{key:List UInt8}{U:Nat→List UInt8}{L:List Blk}{V ct:Nat}{T:Nat→List UInt8}{su:List UInt8}{hv lv kv:Value}{M:List UInt8}{tv:Nat→Value}{Lx Ly:List Blk}{w w':World}(h:Opened rd w00 g N co cn b key U L V ct T su hv lv kv M tv Lx w)(hs:∀x∈Lx,x∈Ly)(hd:Dk rd w00 g Fon N su [] (co.set cn.toNat (ct:Int)) w' ((V,vC g.P cn (b:Int) hv lv kv (ct:Int) M (tv 0) (tv 1) false,87)::Ly)):Opened rd w00 g N co cn b key U L V ct T su hv lv kv M tv Ly w' :=
 ⟨fun x hx=>hs x (h.sub x hx),h.bh.mono hs,h.bl.mono hs,fun k hk=>(h.tr k hk).mono hs,h.inv,hd⟩
theorem Inv.keysOf{su:List UInt8}{N b:Nat}{hk wk:List UInt8}{ct:Nat}{M:List UInt8}{T U:Nat→List UInt8}(h:Inv su N b hk wk ct M T U){k:Nat}(hk2:k<2):dataK M k=sl (U k) 0 32∧markK M k=sl (U k) 32 32:=by
 rw[←h.keys k hk2,Z1 H6,Z1 H6]
 exact⟨rfl,by unfold markK;congr 1;omega⟩
def dk1:List UInt8:=sl (frL 0 128) 64 32
def mk1:List UInt8:=sl (frL 0 128) 96 32
theorem unit_one:sl (unitU 1) 0 32=dk1∧sl (unitU 1) 32 32=mk1:=by
 unfold unitU
 rw[Z1 H6,Z1 H6]
 exact⟨rfl,rfl⟩
theorem read_seven{su0 su:List UInt8}{N b:Nat}{hk wk:List UInt8}{c0 ct:Nat}{M0 M:List UInt8}(h0:Inv su0 N b hk wk c0 M0 (fun _=>zs 1024) unitU)(h:Inv su N b hk wk ct M (lnsT M0 (fun _=>zs 1024) [(1,3,7::zs 127)]) unitU){C:List UInt8}(hC:C=hideV (dataK M0 1) 3 (7::zs 127)) :
  readV M (lnsT M0 (fun _=>zs 1024) [(1,3,7::zs 127)] 1) C 1 3=okR (7::zs 127):=by
 obtain⟨d0,m0⟩:=h0.keysOf (k:=1) H6
 obtain⟨d1,m1⟩:=h.keysOf (k:=1) H6
 rw[unit_one.1] at d0 d1
 rw[unit_one.2] at m0 m1
 have hT:lnsT M0 (fun _=>zs 1024) [(1,3,7::zs 127)] 1=climbL mk1 (zs 1024) 3 (leafL mk1 3 (hideV dk1 3 (7::zs 127))):=by
  show updF (fun _=>zs 1024) 1 _ 1=_
  rw[A1q]
  show climbL (markK M0 1) _ 3 (leafL (markK M0 1) 3 (hideV (dataK M0 1) 3 _))=_
  rw[d0,m0]
 have hr:=h.roots 1 H6
 rw[d0] at hC
 have ls:leafL mk1 3 (hideV dk1 3 (7::zs 127))≠zs 32:=leaf_seen
 have hcl:∀leaf:List UInt8,leaf.length=32→nd (climbL mk1 (zs 1024) 3 leaf) (16+3)=leaf:=fun leaf hl=>by
  rw[climbL_leaf (b:=3) (c:=3) (zs_len 1024) H6 hl H6,if_pos rfl]
 have hsame:∀leaf:List UInt8,leaf.length=32→climbL mk1 (climbL mk1 (zs 1024) 3 leaf) 3 leaf=climbL mk1 (zs 1024) 3 leaf:=fun leaf hl=>by
  have:=climbL_same (mk:=mk1) (b:=3) (A1Y (b:=3) (zs_len 1024) H6 hl) H6 (climb_proper (b:=3) (zs_len 1024) H6 hl (proper_zs mk1))
  rwa [hcl leaf hl] at this
 have hsh:showV dk1 3 (hideV dk1 3 (7::zs 127))=7::zs 127:=showV_hideV (.inl (sl_len (by rw[frL_len];omega))) 3 (by simp[zs_len])
 unfold readV
 rw[hT] at hr ⊢
 rw[hC,d1,m1,hsh]
 generalize hideV dk1 3 (7::zs 127)=HX at *
 have ll:=A0J mk1 3 HX
 generalize leafL mk1 3 HX=LF at *
 rw[hcl LF ll,if_neg ls,hsame LF ll,if_pos (by rw[hr])]
theorem good_seven:∀x∈[((1:Int),(3:Int),(7::zs 127:List UInt8))],goodLn x:=fun x hx=>by
 rw[A5w] at hx
 subst hx
 exact⟨⟨by dsimp only;omega,by dsimp only;omega⟩,by dsimp only;omega,by dsimp only;omega⟩
theorem alive_any(w0:World):Calls Tryz.prog 7 #[] w0 fun e w'=>e=.returned (.bool true)∧Below w0.heap.size w0 w':=by
 obtain⟨rd,hrd⟩:=rdCel_exists
 have lk:keyL1.length=32:=X3 _ _
 have l7:(7::zs 127:List UInt8).length=128:=by rw[A4G,zs_len]
 have hlb:=line_built (u:=1) (m:=3) l7
 have hgs:=good_seven
 have hrs:=fun {su0 su:List UInt8} {c0 ct:Nat} {M0 M:List UInt8} (h0:Inv su0 130 3 (secH keyL1) (secW keyL1) c0 M0 (fun _=>zs 1024) unitU) (h:Inv su 130 3 (secH keyL1) (secW keyL1) ct M (lnsT M0 (fun _=>zs 1024) [(1,3,7::zs 127)]) unitU) {C:List UInt8} hC=>read_seven h0 h (C:=C) hC
 have hS:=St.start w0
 have c7:=cell7_built
 have s7:=A2i (u:=1) (m:=3) (d:=false) l7
 obtain⟨X7,hX7⟩:∃x,(7::zs 127:List UInt8)=x:=⟨_,rfl⟩
 rw[hX7] at hlb l7 c7 s7 hgs hrs
 have hln:(lnV 1 3 X7 false).toList=[((1:Int),(3:Int),X7)].flatMap lnC:=by unfold lnV midC lnC;simp
 have s8:(lnV 1 3 X7 false).size=131:=by rw[←K3];exact s7
 obtain⟨LV,hLV⟩:∃x,lnV 1 3 X7 false=x:=⟨_,rfl⟩
 rw[hLV] at hlb s7 s8 hln
 have hxs:=fun M:List UInt8=>(show lastP ([((1:Int),(3:Int),X7)].map (lnP M)) ((96:Nat):Int)=some ((96:Int),hideV (dataK M 1) 3 X7) from rfl)
 have sX7:csz (bvs X7)=128:=by rw[I2,l7]
 go_enter Tryz.func7,Tryz.ntmps7
 refine Zdsm ?_;intro _ _ _
 refine I9 H9 H8 H8 H8 H8 H8 G2 (made_any hrd) ?_
 clear hS
 rintro e w1 ⟨g,V,su,hv,lv,kv,M,tv,Lx,rfl,hO⟩
 refine⟨_,rfl,?_⟩
 have hS:=hO.dk
 refine I1 ?_
 repeat' (first|((with_reducible refine cons_list ?_);first|(refine Stp.go H9 H8 H8 (O3 H8 H8 c7) ?_;refine I1 ?_)|(refine Stp.go H9 H8 H8 (O3 H8 H8 hlb) ?_;refine I1 ?_))|refine ZaKm ?_|(refine ZkK ?_;clear hS;intro b w hS)|(refine ZtKm ?_;clear hS;intro w hS)|(refine Zc ?_ ?_<;>intro hc)|(refine Zg ?_;first|go_step|go_step3|refine Zr ?_)|fail)
 have hS2:=own_dk.front hS (i:=1) rfl
 simp only[A5j,A5i] at hS2
 have hO2:=hO.move (fun x hx=>A4A _ hx) hS2
 have hLM:LinesM ((b,LV.toList.toArray,67)::Lx) (.slice (some ⟨b,0,none⟩) 1 1) [(1,3,X7)]:=⟨fun x hx=>(by
  rw[A5w] at hx
  subst hx
  exact⟨l7,⟨by dsimp only;omega,by dsimp only;omega⟩,by dsimp only;omega,by dsimp only;omega⟩),.inr ⟨b,0,1,_,_,rfl,by simp,A4t ..,fun j x hj=>by rw[A4D,A4w,hln];exact hj⟩⟩
 refine I9 H9 H8 H8 H8 H8 H8 G2 (A3p hrd ⟨by omega,by decide⟩ H6 hO2 hLM H7) ?_
 clear hS hS2 hO2
 rintro e w3 (⟨err,Ly,rfl,_,hbad⟩|⟨su2,M2,tv2,Ly,R,tl,rfl,hO3,_,_,hRin,hRs,htl,hput,hblk⟩)
 ·exfalso
  rcases hbad with h|h
  ·exact h hgs
  ·simp at h
 refine⟨_,rfl,?_⟩
 have hS:=hO3.dk
 refine I1 ?_
 refine ZdKm ?_;intro _ _
 refine I9 H9 H8 H8 H8 H8 H8 G2 (crash_on hrd hS) ?_
 clear hS
 rintro e w4 ⟨rfl,hS⟩
 refine⟨_,rfl,?_⟩
 refine I1 ?_
 refine ZdKm ?_;intro _ _
 refine I9 H9 H8 H8 H8 H8 H8 G2 (key_any _) ?_
 rintro e w5 ⟨gk2,rfl,q1,q2,q3⟩
 refine⟨_,rfl,?_⟩
 replace hS:=own_dk.new hS q3 q1 q2
 clear q1 q2 q3
 refine I1 ?_
 refine ZdKm ?_;show _
 obtain⟨hst2,hpd⟩:=hO3.inv.start2 hRin hRs htl
 refine I9 H9 H8 H8 H8 H8 H8 G2 (open_ok (cn:=1) (ba:=3) hrd hS ⟨by omega,by decide⟩ lk (A1O lk (A4t ..)) 4 2 H6 rfl hO3.inv (.inr rfl) hst2 (fun _=>by rw[hpd];exact hput)) ?_
 clear hS hst2 hpd hput htl hRs hRin
 rintro e w6 ⟨V2,su3,hv2,lv2,kv2,M3,tv3,Lz,rfl,hO4,hb4⟩
 refine⟨_,rfl,?_⟩
 have hS:=hO4.dk
 have hC:celX su3 (3+(69+24*1+3))=hideV (dataK M 1) 3 X7:=by
  have e1:=hb4 96 (.inr ⟨by omega,by omega⟩)
  have e2:=hblk 96 (.inr ⟨by omega,by omega⟩)
  rw[hxs] at e2
  exact e1.trans e2
 have hrv:=hrs hO.inv hO4.inv hC
 clear hC hb4 hblk hrs
 have hok:=hS.ok
 have hct:∀w X,Dk rd w0 g Fon 130 su3 [] (([0,0].set (Int.toNat 1) ((3+1:Nat):Int)).set (Int.toNat 1) ((4+2:Nat):Int)) w X→Calls Tryz.prog 12 #[.pointer (some ⟨g.P,0,none⟩),.int .i64 1] w fun e w'=>e=.returned (.tuple #[.int .i64 6,.nilIface])∧Below w.heap.size w w':=fun w X h=>by
  obtain⟨ar,lf,dn,st,hP,hC⟩:=h.blkP
  exact Y4 (w0:=w) (p:=g.P) (ar:=ar) (dn:=dn) (lf:=lf) (st:=st) (S:=g.S) (C:=g.C) (B:=g.B) (N:=130) (fr:=(0,0)) (ty:=109) (ty2:=3) hok.2.2.2.1.2 1 hP hC
 refine I1 ?_
 repeat' (first|refine ZaKm ?_|(refine ZkK ?_;clear hS;intro b w hS)|(refine ZtKm ?_;clear hS;intro w hS)|(refine Zc ?_ ?_<;>intro hc)|((with_reducible refine cons_list ?_);first|(refine Stp.go H9 H8 H8 (r_eqPN H8 H8 Tryz.underlying30) ?_;refine I1 ?_))|(refine Zg ?_;first|go_step|go_step3|refine Zr ?_)|fail)
 have hrd1:=vread_ok (k:=1) (m:=3) hrd hS hO4.inv.mlen (A4t ..) hO4.inv.fit H6 H6 ((hO4.tr 1 H6).mono (fun x hx=>A4A _ hx))
 rw[hrv,show okR X7=.tuple #[.agg (bvs X7),.nilIface] from rfl] at hrd1
 (refine J0 H9 own_dk hS (hrd1) ?_;clear hS;intro w hS;refine I1 ?_)
 clear hrd1 hrv
 repeat' (first|((with_reducible refine cons_list ?_);first|(refine J0 H9 own_dk hS (hct _ _ hS) ?_;clear hS;intro w hS;refine I1 ?_)|(refine Stp.go H9 H8 H8 (O3 H8 H8 c7) ?_;refine I1 ?_)|(refine Stp.go H9 H8 H8 (r_eqAB (n:=128) H8 H8 H8 G8 G8 l7 l7 (show (X7 == X7)=true by simp)) ?_;refine I1 ?_))|refine ZaKm ?_|(refine ZkK ?_;clear hS;intro b w hS)|(refine ZtKm ?_;clear hS;intro w hS)|(refine Zc ?_ ?_<;>intro hc)|(refine Zg ?_;first|go_step|go_step3|refine Zr ?_)|fail)
 go_ret
 exact⟨rfl,hS.below⟩
end
section
attribute [local irreducible] cellN
abbrev Lw:=Int × Int × List UInt8
def LnAt(w:World)(v:Value)(l:List Lw):Prop:=∃(vs:List Value),(∀(i:Nat)(u m:Int)(x:List UInt8),l[i]?=some (u,m,x)→∃sv,vs[i]?=some sv∧BytesAt w sv x∧i64R u∧i64R m)∧∃p c,v=.slice p l.length c∧l.length≤c∧(p=none→c=0)∧(l≠[]→∃b o cs t fr,p=some ⟨b,o,none⟩∧blk w b=some (.cells cs t fr)∧∀(i:Nat)(u m:Int)(x:List UInt8)(sv:Value),l[i]?=some (u,m,x)→vs[i]?=some sv→cs[o+i*3]?=some (.int .i64 u)∧cs[o+i*3+1]?=some (.int .i64 m)∧cs[o+i*3+2]?=some sv)
theorem LnAt.below{w w':World}{v:Value}{l:List Lw}(h:LnAt w v l)(hb:Below w.heap.size w w'):LnAt w' v l:=by
 obtain⟨vs,h0,p,c,h1,h2,h3,h4⟩:=h
 refine⟨vs,fun i u m x hi=>?_,p,c,h1,h2,h3,fun hne=>?_⟩
 ·obtain⟨sv,q1,q2,q3⟩:=h0 i u m x hi
  exact⟨sv,q1,q2.below hb,q3⟩
 ·obtain⟨b,o,cs,t,fr,h5,h6,h7⟩:=h4 hne
  exact⟨b,o,cs,t,fr,h5,(hb.block b (J5 h6)).trans h6,h7⟩
def lnsL(l:List Lw):List Ln:=l.map fun x=>(x.1,x.2.1,cellN x.2.2)
theorem A4e(l:List Lw):(lnsL l).length=l.length:=by unfold lnsL;rw[A4z]
theorem lnsL_ok{w:World}{v:Value}{l:List Lw}(h:LnAt w v l):okLn (lnsL l):=by
 obtain⟨vs,h0,_⟩:=h
 intro x hx
 obtain⟨⟨u,m,y⟩,hy,rfl⟩:=A4I.1 hx
 obtain⟨i,hi⟩:=List.getElem?_of_mem hy
 obtain⟨_,_,_,h1,h2⟩:=h0 i u m y hi
 exact⟨cellN_len y,h1,h2⟩
theorem lnsC_len:∀{l:List Ln},okLn l→(l.flatMap lnC).length=l.length*131
 | [],_=>rfl
 | x::l,h=>by
  rw[A5n,A4p,lnC_len (h x (A4t ..)).1,lnsC_len (fun y hy=>h y (A4A _ hy)),A4G]
  omega
theorem lnsL_next{l:List Lw}{k:Nat}{u m:Int}{x:List UInt8}(h:l[k]?=some (u,m,x)):(lnsL (l.take (k+1))).flatMap lnC=(lnsL (l.take k)).flatMap lnC++lnC (u,m,cellN x):=by
 unfold lnsL
 rw[A5S,h,A4N,List.flatMap_append]
 simp
theorem lnC_one{x:Ln}:∀v∈lnC x,v.oneCell'=true:=by
 intro v h
 unfold lnC at h
 rcases A5c.1 h with h|h
 ·rcases A4O.1 h with rfl|h
  ·rfl
  ·rw[A5w] at h;subst h;rfl
 ·rcases A5c.1 h with h|h
  ·obtain⟨y,_,rfl⟩:=A4I.1 h;rfl
  ·rw[A5w] at h;subst h;rfl
theorem lnV_toList(u m:Int)(C:List UInt8):(lnV u m C false).toList=lnC (u,m,C):=by unfold lnV midC lnC;simp
theorem cut_three{cs:Array Value}{o:Nat}{x y z:Value}(h1:cs[o]?=some x)(h2:cs[o+1]?=some y)(h3:cs[o+2]?=some z):cut cs o 3=#[x,y,z]:=by
 have hsz:=(A4H.1 h3).1
 have hex:cs.extract o (o+3)=#[x,y,z]:=by
  apply A5D
  intro i
  rw[A6k]
  match i with
  | 0=>rw[if_pos H6];exact h1
  | 1=>rw[if_pos H6];exact h2
  | 2=>rw[if_pos H6];exact h3
  | i+3=>rw[if_neg H6];rfl
 unfold cut
 split
 ·rename_i h
  have:cs.extract o (o+3)=cs:=by
   rw[h.1,A4D]
   have h2:=h.2
   rw[K3] at h2
   rw[←h2,Array.extract_size]
  rw[←this];exact hex
 ·exact hex
theorem lines_any(l:List Lw)(hl:l.length≤1000)(v:Value)(w0:World)(hv:LnAt w0 v l) :
  Calls Tryz.prog 10 #[v] w0 fun e w'=>∃g c sp,e=.returned (.slice (some ⟨g,0,none⟩) l.length c)∧l.length≤c∧w0.heap.size≤g∧blk w' g=some (.cells ((lnsL l).flatMap lnC++sp).toArray 67 (0,0))∧Below w0.heap.size w0 w':=by
 have hok:=lnsL_ok hv
 obtain⟨vs,hvs,p,c,rfl,hc,hp0,hcell⟩:=hv
 have hS:=St.start w0
 obtain⟨n,hn⟩:∃n,l.length=n:=⟨_,rfl⟩
 rw[hn] at hl hc ⊢
 go_enter Tryz.func10,Tryz.ntmps10
 refine Zdsm ?_;clear hS;intro _ b w hS _ _
 go_loopw [3,5,9] (fun u3 u5 u9 wr=>∃(k g c:Nat)(sp:List Value),k≤n∧u9=.int .i64 (k:Int)∧u3=.slice (some ⟨g,0,none⟩) k c∧k≤c∧c≤maxLen∧sp.length=(c - k)*131∧St w0 wr [(g,((lnsL (l.take k)).flatMap lnC++sp).toArray,67)]) (fun _ _ u9 _=>n - (intOf u9).toNat)
 case atStart=>exact⟨0,b,0,[],by omega,rfl,rfl,by omega,by decide,rfl,hS⟩
 case round =>
  clear hS
  obtain⟨k,g,c2,sp,hk,rfl,rfl,k1,k2,k3,hS⟩:=hrel
  have k2':=k2
  unfold maxLen at k2'
  have hlk:((lnsL (l.take k)).flatMap lnC).length=k*131:=by
   rw[lnsC_len (fun x hx=>hok x (by unfold lnsL at hx ⊢;rw[A6g] at hx;exact A6A hx)),A4e,A4u];congr 1;omega
  by_cases hlt:k<n
  ·obtain⟨⟨a,m,x⟩,hx⟩:∃x,l[k]?=some x:=⟨_,A4y H6⟩
   obtain⟨b0,o0,cs,ty,fr,rfl,hb,hcc⟩:=hcell D4
   obtain⟨sv,hsv,hbx,hr⟩:=hvs k a m x hx
   obtain⟨c1,c3,c5⟩:=hcc k a m x sv hx hsv
   have hsz:o0+k*3+3≤csz cs:=by rw[K3];have:=(A4H.1 c5).1;omega
   have hcut:cut cs (o0+k*3) 3=#[.int .i64 a,.int .i64 m,sv]:=cut_three c1 c3 c5
   obtain⟨p3,c4,rfl,_⟩:=hbx.slice
   have hnx:=lnsL_next hx
   have lC:=cellN_len x
   have hce:=fun w hv=>cellN_any x (.slice p3 x.length c4) w hv
   have hpb:=line_built (u:=a) (m:=m) lC
   obtain⟨C,hC⟩:∃C,cellN x=C:=⟨_,rfl⟩
   rw[hC] at hnx lC hce hpb
   have sC:csz (bvs C)=128:=by rw[I2,lC]
   have s1:csz (lnV a m C false)=131:=A2i lC
   obtain⟨Z,hZ⟩:∃Z,(lnsL (l.take k)).flatMap lnC=Z:=⟨_,rfl⟩
   obtain⟨Z2,hZ2⟩:∃Z,(lnsL (l.take (k+1))).flatMap lnC=Z:=⟨_,rfl⟩
   rw[hZ] at hS hlk hnx
   rw[hZ2] at hnx
   repeat' (first|refine Zbsm ?_|((with_reducible refine cons_list ?_);first|((first|refine J4 H9 own_st hS ?_ (hv:=by rw[A4o];exact hcut)|refine I7 H9 E5 ?_ (hv:=by first|rfl|exact bvs_getLA|(rw[A4o];exact hcut))|refine J3 H9 own_st hS ?_ (hv:=by first|(exact hcut)|rfl)|refine I8 H9 E5 ?_ (hv:=by first|exact I6 _ _ A8|(exact hcut)|rfl)|refine J1 H9 ?_ (hv':=by first|exact bvs_getLA|(rw[A4o];exact hcut)))<;>refine I1 ?_))|(refine Zks ?_;clear hS;intro b w hS)|(refine Ztsm ?_;clear hS;intro w hS)|(refine Zc ?_ ?_<;>intro hc)|(refine Zg ?_;first|go_step|go_step3|refine Zr ?_)|fail)
   refine S7 [0] [0,1,2,3,4,5,6,7,8,9,10,11] 9 G8 G8 H8 G8 A4 G8 (fun _ _ _ _ _ h=>h) ?_
   dsimp only[List.take,List.drop]
   iterate 9 (first|(refine Zw ?_;apply Exists.intro;refine⟨fun pB w' hw' hF=>?_,?_⟩;(focus (have hZ:=(own_st).call hS hw';first|exact(K6 (hce _ (hbx.below hZ.below)))|exact(M1 (O3 H8 H8 hpb))));refine Zo ?_)|refine ZQm ?_|refine ZQs ?_|refine ZQa ?_|refine ZQz ?_)
   refine Zn own_st hS ?_
   clear hS
   intro pB w hS
   try dsimp only
   refine X5 H9 own_st hS ?_ (h1:=by intro v hv;simp only[A4O,A5b,or_false] at hv;subst hv;show (lnV a m C false).size=131;rw[←K3];exact s1)
   clear hS
   intro b w hS
   refine I1 ?_
   refine U2 H9 own_st hS H8 H8 H8 H8 G2 (by exact at_ 2 rfl) (olds:=Z) (spare:=sp) H8 (by rw[hlk]) k1 k3 (xs:=lnC (a,m,C)) (Z3 (hS.blk 0 rfl) (fun j v h=>by rw[A4D];rw[←lnV_toList,←A4o] at *;exact h)) (by rw[lnC_len (by exact lC)]) lnC_one F6 (nm:=k+1) H6 ?_
   clear hS
   intro b' c' sp' w' q1 q2 q3 hS
   rw[←hnx] at hS
   replace hS:=hS.take 1
   refine I1 ?_
   refine Zdsm ?_;show _
   go_roundw
   case rel=>exact⟨k+1,b',c',sp',by omega,by push_cast;rfl,rfl,q1,q2,q3,by rw[hZ2];exact hS⟩
   case measure=>first|(simp[intOf];done)|(simp[intOf];omega)
  ·obtain rfl:k=n:=by omega
   rw[A4B (l:=l) H6] at hS
   refine Zdsm ?_;intro _ _ _
   go_ret
   exact⟨g,c2,sp,rfl,k1,hS.low 0 rfl,hS.blk 0 rfl,hS.below⟩
end
section
attribute [local irreducible] tagL
end
section
attribute [local irreducible] tagL
theorem head_is{C:List UInt8}(hC:C.length=128)(key:List UInt8)(h0:0≤cntL C):headC key (cntL C).toNat (restL C)=C↔tagL key (C.take 96)=C.drop 96:=by
 have l8:(C.take 8).length=8:=by rw[A4u];omega
 have h1:=beN_lt (C.take 8)
 rw[l8] at h1
 have h3:(256:Nat) ^ 8=18446744073709551616:=by decide +kernel
 rw[h3] at h1
 have h2:(cntL C).toNat=beN (C.take 8):=by
  unfold cntL wrap64 at h0 ⊢
  clear l8
  generalize beN (C.take 8)=x at *
  omega
 have h4:=A3d (C.take 8)
 rw[l8] at h4
 have h5:headT (cntL C).toNat (restL C)=C.take 96:=by
  unfold headT restL
  rw[h2,h4,show 96=8+88 by omega,A6K]
 unfold headC
 rw[h5]
 constructor
 ·intro h
  conv at h=>rhs;rw[←A4L 96 C]
  exact List.append_cancel_left h
 ·intro h
  rw[h,A4L]
end
section
attribute [local irreducible] tagL headC hdRes cntL restL
end
section
end
section
attribute [local irreducible] encL
end
section
end
section
attribute [local irreducible] shaL tagL
section
variable{rd:Rdr}{w0:World}
end
def errE(n:Int):Value:=.iface 54 (.int .i64 n)
end
section
attribute [local irreducible] shaL tagL
def LLAt(w:World)(v:Value)(ls:List (List Lw)):Prop:=∃(vs:List Value),(∀(i:Nat)(l:List Lw),ls[i]?=some l→∃sv,vs[i]?=some sv∧LnAt w sv l)∧∃p c,v=.slice p ls.length c∧ls.length≤c∧(p=none→c=0)∧(ls≠[]→∃b o cs t fr,p=some ⟨b,o,none⟩∧blk w b=some (.cells cs t fr)∧∀(i:Nat)(l:List Lw)(sv:Value),ls[i]?=some l→vs[i]?=some sv→cs[o+i]?=some sv)
def sumN:List (List Lw)→Nat
 | []=>0
 | x::l=>1+x.length+sumN l
theorem A1e:∀a b:List (List Lw),sumN (a++b)=sumN a+sumN b
 | [],b=>by simp[sumN]
 | x::a,b=>by rw[A4K,sumN,sumN,A1e a b];omega
theorem sumN_next{ls:List (List Lw)}{k:Nat}{x:List Lw}(h:ls[k]?=some x):sumN (ls.take (k+1))=sumN (ls.take k)+(1+x.length):=by
 rw[A5S,h,A1e];rfl
theorem sumN_take(ls:List (List Lw))(k:Nat):sumN (ls.take k)≤sumN ls:=by
 have h:=A1e (ls.take k) (ls.drop k)
 rw[A4L] at h;omega
theorem sumN_len:∀ls:List (List Lw),ls.length≤sumN ls
 | []=>A4C _
 | x::l=>by have:=sumN_len l;rw[A4G,sumN];omega
theorem sumN_mem{ls:List (List Lw)}{x:List Lw}(h:x∈ls):x.length≤sumN ls:=by
 obtain⟨a,b,rfl⟩:=List.append_of_mem h
 rw[A1e,sumN];omega
theorem vaultCounts_any(ls:List (List Lw))(hs:sumN ls≤1048576)(v:Value)(w0:World)(hv:LLAt w0 v ls):Calls Tryz.prog 4 #[v] w0 fun e w'=>e=.returned (.bool true)∧Below w0.heap.size w0 w':=by
 obtain⟨rd,hrd⟩:=rdCel_exists
 obtain⟨vs,hvs,p,c,rfl,hc,hp0,hcell⟩:=hv
 have hS:=St.start w0
 obtain⟨n,hn⟩:∃n,ls.length=n:=⟨_,rfl⟩
 have hnl:=sumN_len ls
 rw[hn] at hc hnl ⊢
 go_enter Tryz.func4,Tryz.ntmps4
 repeat' (first|refine Zasm ?_|(refine Zks ?_;clear hS;intro b w hS)|(refine Ztsm ?_;clear hS;intro w hS)|(refine Zc ?_ ?_<;>intro hc)|((with_reducible refine cons_list ?_);first|(refine J0 H9 own_st hS (alive_any _) ?_;clear hS;intro w hS;refine I1 ?_))|(refine Zg ?_;first|go_step|go_step3|refine Zr ?_)|fail)
 go_loopw [3,5,20] (fun u3 u5 u20 wr=>∃k:Nat,k≤n∧u20=.int .i64 (k:Int)∧u3=.int .i64 (sumN (ls.take k):Int)∧St w0 wr []) (fun _ _ u20 _=>n - (intOf u20).toNat)
 case atStart=>exact⟨0,by omega,rfl,rfl,hS⟩
 case round =>
  clear hS
  obtain⟨k,hk,rfl,rfl,hS⟩:=hrel
  by_cases hlt:k<n
  ·obtain⟨x,hx⟩:∃x,ls[k]?=some x:=⟨_,A4y H6⟩
   obtain⟨b0,o0,cs,ty,fr,rfl,hb,hcc⟩:=hcell D4
   obtain⟨sv,hsv,hln⟩:=hvs k x hx
   have c1:=hcc k x sv hx hsv
   obtain⟨_,_,p3,c3,rfl,_,_,_⟩:=hln
   have hnx:=sumN_next hx
   have hle:=sumN_take ls (k+1)
   obtain⟨s1,hs1⟩:∃s,sumN (ls.take k)=s:=⟨_,rfl⟩
   obtain⟨s2,hs2⟩:∃s,sumN (ls.take (k+1))=s:=⟨_,rfl⟩
   rw[hs1,hs2] at hnx
   rw[hs1]
   rw[hs2] at hle
   obtain⟨q,hq⟩:∃q,x.length=q:=⟨_,rfl⟩
   rw[hq] at hnx c1
   repeat' (first|refine Zbsm ?_|((with_reducible refine cons_list ?_);first|((first|refine J4 H9 own_st hS ?_ (hv:=by rw[A4o];exact c1)|refine I7 H9 E5 ?_ (hv:=by first|rfl|exact bvs_getLA|(rw[A4o];exact c1))|refine J3 H9 own_st hS ?_ (hv:=by first|(exact c1)|rfl)|refine I8 H9 E5 ?_ (hv:=by first|exact I6 _ _ A8|(exact c1)|rfl)|refine J1 H9 ?_ (hv':=by first|exact bvs_getLA|(rw[A4o];exact c1)))<;>refine I1 ?_))|(refine Zks ?_;clear hS;intro b w hS)|(refine Ztsm ?_;clear hS;intro w hS)|(refine Zc ?_ ?_<;>intro hc)|(refine Zg ?_;first|go_step|go_step3|refine Zr ?_)|fail)
   go_roundw
   case rel=>exact⟨k+1,by omega,by push_cast;rfl,by rw[hs2,hnx];push_cast;rfl,hS⟩
   case measure=>first|(simp[intOf];done)|(simp[intOf];omega)
  ·obtain rfl:n=k:=by omega
   rw[A4B (l:=ls) H6]
   obtain⟨s,hse⟩:∃s,sumN ls=s:=⟨_,rfl⟩
   rw[hse]
   rw[hse] at hs hnl
   by_cases h30:30<s
   ·repeat' (first|refine Zasm ?_|(refine Zks ?_;clear hS;intro b w hS)|(refine Ztsm ?_;clear hS;intro w hS)|(refine Zc ?_ ?_<;>intro hc)|(refine Zg ?_;first|go_step|go_step3|refine Zr ?_)|fail)
    go_ret
    exact⟨rfl,hS.below⟩
   ·repeat' (first|refine Zasm ?_|(refine Zks ?_;clear hS;intro b w hS)|(refine Ztsm ?_;clear hS;intro w hS)|(refine Zc ?_ ?_<;>intro hc)|(refine Zg ?_;first|go_step|go_step3|refine Zr ?_)|fail)
    have hB:=hS.below
    generalize wr=wA at hB hS ⊢
    refine I9 H9 H8 H8 H8 H8 H8 G2 (made_any hrd) ?_
    clear hS
    rintro e w1 ⟨g,V,su,hv,lv,kv,M,tv,Lx,rfl,hO⟩
    refine⟨_,rfl,?_⟩
    have hS:=hO.dk
    refine I1 ?_
    repeat' (first|refine ZaKm ?_|(refine ZkK ?_;clear hS;intro b w hS)|(refine ZtKm ?_;clear hS;intro w hS)|(refine Zc ?_ ?_<;>intro hc)|((with_reducible refine cons_list ?_);first|(refine Stp.go H9 H8 H8 (r_nePN H8 H8 Tryz.underlying30) ?_;refine I1 ?_))|(refine Zg ?_;first|go_step|go_step3|refine Zr ?_)|fail)
    go_loopw [9,11,12,13,41] (fun u9 u11 u12 u13 u41 wr=>∃(k ct:Nat)(T:Nat→List UInt8)(su:List UInt8)(hv lv kv:Value)(M:List UInt8)(tv:Nat→Value)(Lx:List Blk),k≤n∧ct≤3+k∧u41=.int .i64 (k:Int)∧u9=.int .i64 (ct:Int)∧Opened rd wA g 130 [0,0] 1 3 keyL1 unitU [] V ct T su hv lv kv M tv Lx wr) (fun _ _ _ _ u41 _=>n - (intOf u41).toNat)
    case atStart=>exact⟨0,3,_,su,hv,lv,kv,M,tv,Lx,by omega,by omega,rfl,rfl,hO⟩
    case round =>
     clear hS hO
     obtain⟨k,ct,T,su,hv,lv,kv,M,tv,Lx,hk,hct,rfl,rfl,hO⟩:=hrel
     have hS:=hO.dk
     by_cases hlt:k<n
     ·obtain⟨x,hx⟩:∃x,ls[k]?=some x:=⟨_,A4y H6⟩
      obtain⟨b0,o0,cs,ty,fr,rfl,hb,hcc⟩:=hcell D4
      obtain⟨sv,hsv,hln⟩:=hvs k x hx
      have c1:=hcc k x sv hx hsv
      have hbA:=A3h hb hB
      have hltA:=J5 hbA
      have hlA:=hln.below hB
      have hxl:x.length≤s:=by rw[←hse];exact sumN_mem (A5a hx)
      repeat' (first|refine ZaKm ?_|(refine ZkK ?_;clear hS;intro b w hS)|(refine ZtKm ?_;clear hS;intro w hS)|(refine Zc ?_ ?_<;>intro hc)|((with_reducible refine cons_list ?_);first|(refine I7 H9 ((hS.below.block _ hltA).trans hbA) ?_ (hv:=by rw[A4o];exact c1);refine I1 ?_))|(refine Zg ?_;first|go_step|go_step3|refine Zr ?_)|fail)
      refine I9 H9 H8 H8 H8 H8 H8 G2 (lines_any x H6 sv _ (hlA.below hS.below)) ?_
      rintro e w2 ⟨gl,cl,spl,rfl,q0,q1,q2,q3⟩
      refine⟨_,rfl,?_⟩
      replace hS:=own_dk.new hS q3 q1 q2
      clear q1 q2 q3
      refine I1 ?_
      have hS2:=own_dk.front hS (i:=1) rfl
      simp only[A5j,A5i] at hS2
      have hO2:=hO.move (fun x hx=>A4A _ hx) hS2
      have hLM:LinesM ((gl,((lnsL x).flatMap lnC++spl).toArray,67)::Lx) (.slice (some ⟨gl,0,none⟩) x.length cl) (lnsL x):=⟨lnsL_ok hlA,.inr ⟨gl,0,cl,_,_,by rw[A4e],by rw[A4e];exact q0,A4t ..,fun j y hj=>by rw[A4D,A4w,A4M (A4v.1 hj).1];exact hj⟩⟩
      have hcm:=A3p hrd ⟨by omega,by decide⟩ H6 hO2 hLM (by rw[A4e];omega)
      clear hS hS2 hO hO2 hLM
      refine I9 H9 H8 H8 H8 H8 H8 G2 (hcm.mono (R':=fun e w'=>∃(err:Value)(ct':Nat)(T':Nat→List UInt8)(su':List UInt8)(M':List UInt8)(tv':Nat→Value)(Ly:List Blk),e=.returned err∧Opened rd wA g 130 [0,0] 1 3 keyL1 unitU [] V ct' T' su' hv lv kv M' tv' Ly w'∧((ct'=ct∧∃n,err=errE n)∨(ct'=ct+1∧err=.nilIface))) (by
       rintro e w' (⟨err,Ly,rfl,h,_⟩|⟨su2,M2,tv2,Ly,R,tl,rfl,h,_⟩)
       ·exact⟨_,_,_,_,_,_,_,rfl,h,.inl ⟨rfl,err,rfl⟩⟩
       ·exact⟨_,_,_,_,_,_,_,rfl,h,.inr ⟨rfl,rfl⟩⟩)) ?_
      clear hcm
      rintro e w3 ⟨err,ct',T',su',M',tv',Ly,rfl,hO,hcs⟩
      refine⟨_,rfl,?_⟩
      have hS:=hO.dk
      have hM:=hO.inv.mlen
      have hok:=hS.ok
      have lM88:(M'.take 88).length=88:=by rw[A4u,hM];rfl
      have sV:=S4 (P:=g.P) (cn:=1) (bs:=((3:Nat):Int)) (h:=hv) (l:=lv) (k:=kv) (ct:=(ct':Int)) (t0:=tv' 0) (t1:=tv' 1) (dn:=false) hM
      have cH:=vC_head (P:=g.P) (cn:=1) (bs:=((3:Nat):Int)) (h:=hv) (l:=lv) (k:=kv) (ct:=(ct':Int)) (t0:=tv' 0) (t1:=tv' 1) (dn:=false) hM
      have hrr:=fun w Y (h:Dk rd wA g Fon 130 su' [] (([0,0]:List Int).set (Int.toNat 1) (ct':Int)) w Y) (h2:(V,vC g.P 1 ((3:Nat):Int) hv lv kv (ct':Int) M' (tv' 0) (tv' 1) false,87)∈Y) (h3:∀y∈Ly,y∈Y)=>vread_ok (k:=0) (m:=3) hrd h hM h2 hO.inv.fit H6 H6 ((hO.tr 0 H6).mono h3)
      have hc1:∀w X,Dk rd wA g Fon 130 su' [] (([0,0]:List Int).set (Int.toNat 1) (ct':Int)) w X→Calls Tryz.prog 12 #[.pointer (some ⟨g.P,0,none⟩),.int .i64 1] w fun e w'=>e=.returned (.tuple #[.int .i64 (ct':Int),.nilIface])∧Below w.heap.size w w':=fun w X h=>by
       obtain⟨ar,lf,dn,st,hP,hC⟩:=h.blkP
       exact Y4 (w0:=w) (p:=g.P) (ar:=ar) (dn:=dn) (lf:=lf) (st:=st) (S:=g.S) (C:=g.C) (B:=g.B) (N:=130) (fr:=(0,0)) (ty:=109) (ty2:=3) hok.2.2.2.1.2 1 hP hC
      rcases hcs with⟨rfl,en,rfl⟩|⟨rfl,rfl⟩
      all_goals
       refine I1 ?_
       repeat' (first|((with_reducible refine cons_list ?_);first|(refine J0 H9 own_dk hS (hrr _ _ hS (A4t ..) (fun y hy=>A4A _ hy)) ?_;clear hS;intro w hS;refine I1 ?_)|(refine J0 H9 own_dk hS (hc1 _ _ hS) ?_;clear hS;intro w hS;refine I1 ?_)|(refine J0 H9 own_dk hS (vhead_any lM88 H6 cH _ (own_dk.blk 0 hS rfl)) ?_;clear hS;intro w hS;refine I1 ?_))|refine ZaKm ?_|(refine ZkK ?_;clear hS;intro b w hS)|(refine ZtKm ?_;clear hS;intro w hS)|(refine Zc ?_ ?_<;>intro hc)|(refine Zg ?_;first|go_step|go_step3|refine Zr ?_)|fail)
       go_roundw
       case rel=>exact⟨k+1,_,_,_,_,_,_,_,_,_,by omega,by omega,by push_cast;rfl,by push_cast;rfl,hO.move (fun y hy=>hy) hS⟩
       case measure=>first|(simp[intOf];done)|(simp[intOf];omega)
     ·obtain rfl:n=k:=by omega
      have hok:=hS.ok
      have hc0:∀w X,Dk rd wA g Fon 130 su [] (([0,0]:List Int).set (Int.toNat 1) (ct:Int)) w X→Calls Tryz.prog 12 #[.pointer (some ⟨g.P,0,none⟩),.int .i64 0] w fun e w'=>e=.returned (.tuple #[.int .i64 0,.nilIface])∧Below w.heap.size w w':=fun w X h=>by
       obtain⟨ar,lf,dn,st,hP,hC⟩:=h.blkP
       exact Y4 (w0:=w) (p:=g.P) (ar:=ar) (dn:=dn) (lf:=lf) (st:=st) (S:=g.S) (C:=g.C) (B:=g.B) (N:=130) (fr:=(0,0)) (ty:=109) (ty2:=3) hok.2.2.2.1.2 0 hP hC
      repeat' (first|refine ZaKm ?_|(refine ZkK ?_;clear hS;intro b w hS)|(refine ZtKm ?_;clear hS;intro w hS)|(refine Zc ?_ ?_<;>intro hc)|((with_reducible refine cons_list ?_);first|(refine J0 H9 own_dk hS (hc0 _ _ hS) ?_;clear hS;intro w hS;refine I1 ?_))|(refine Zg ?_;first|go_step|go_step3|refine Zr ?_)|fail)
      go_ret
      exact⟨rfl,hB.trans (hS.below.mono hB.size)⟩
end
end
section
open Go.ChangeShapes Go.WideShapes Go.ChangeAt Go.RowKit
open Go.ChangeShapes Go.WideShapes Go.ChangeAt Go.RowKit
theorem trod_bytes8{P:Program}{H:Type}{enc:TypeId × Value→H}{w:World}{base fuel:Nat}{sp:Nat→Bool}{held:Bool}{t e:Nat}{cs:List Value}{x:DataW H × List MemPlace}
  (ht:P.underlying t=some (.slice e))(he:P.underlying e=some (.int .u8))(hc:P.cellsOf e=1)(hf:DataW.trod enc P w base sp held fuel t cs=some x):∃v l,cs=[v]∧BytesAt w v l∧l.length≤maxLen:=by
 have hv:∃a n c,cs=[.slice a n c]:=by
  rcases Go.Deep.open_slice1 ht hc hf with⟨hcs,_⟩|⟨a,len,cap,m,n2,V,D,Pl,hcs,_⟩
  ·exact⟨_,_,_,hcs⟩
  ·exact⟨_,_,_,hcs⟩
 obtain⟨a,n,c,rfl⟩:=hv
 obtain⟨l,h1,h2⟩:=open_bytes (v:=.slice a n c) (d:=x.1) (p:=x.2) ht he hc ⟨_,_,_,rfl⟩ ⟨fuel,hf⟩
 exact⟨_,l,rfl,h1,h2⟩
theorem trod_int1{P:Program}{H:Type}{enc:TypeId × Value→H}{w:World}{base fuel:Nat}{sp:Nat→Bool}{held:Bool}{t:Nat}{k:IntKind}{cs:List Value}{x:DataW H × List MemPlace}
  (ht:P.underlying t=some (.int k))(hf:DataW.trod enc P w base sp held fuel t cs=some x):∃n,cs=[.int k n]∧(Lit.int k n).wf=true:=by
 obtain⟨n,h1,_,h3⟩:=DataW.trod_int ht hf
 exact⟨n,h1,h3⟩
end
section
open Go.ChangeShapes Go.WideShapes Go.ChangeAt Go.RowKit
theorem i64_of{n:Int}(wf:(Lit.int .i64 n).wf=true):i64R n:=by
 have q1:IntKind.i64.min = -9223372036854775808:=rfl
 have q2:IntKind.i64.max=9223372036854775807:=rfl
 simp only[Lit.wf,A4P,decide_eq_true_eq] at wf
 unfold i64R
 omega
end
end Go.Proofs.YtggbbafanhceaaaGreatRR
