/-
  Laws that the claims of this seat use, of several texts in one. No condition of their own.
-/
import Derived.Test.YtggbbafanhceaaaGreatRRL25
set_option maxRecDepth 100000
set_option maxHeartbeats 8000000
set_option linter.all false
namespace Go.Proofs.YtggbbafanhceaaaGreatRR
section
open Go.ChangeShapes Go.WideShapes Go.ChangeAt Go.RowKit
attribute [local irreducible] xorL sboxL subB sealV openV
attribute [local go_sem] Oper.semAt_some
theorem A1E{a b:List UInt8}{o:Nat}(h:¬(o=0∧a.length=b.length)):paste (bvs a) o (bvs b)=bvs (a.take o++b++a.drop (o+b.length)):=by
 unfold paste
 rw[if_neg (by rw[I2,I2];exact h)]
 unfold splice bvs
 simp[A6g,A6m]
theorem paste_first{c:List UInt8}(h:c.length=16):paste (bvs (zs 32)) 0 (bvs c)=bvs (c++zs 16):=by
 rw[A1E F8,h,A4Y,A4x,zs_drop]
theorem paste_second{c d:List UInt8}(h:c.length=16)(hd:d.length=16):paste (bvs (c++zs 16)) 16 (bvs d)=bvs (c++d):=by
 rw[A1E H6,hd,←h,List.take_left,A4F (by rw[A4p,zs_len];omega),A4S]
theorem paste_low{a b c:List UInt8}(ha:a.length=16)(hb:b.length=16)(hc:c.length=16):paste (bvs (a++b)) 0 (bvs c)=bvs (c++b):=by
 rw[A1E E4,hc,A4Y,A4x,←ha,A4D,List.drop_left]
theorem paste_high{a b c:List UInt8}(ha:a.length=16)(hb:b.length=16)(hc:c.length=16):paste (bvs (a++b)) 16 (bvs c)=bvs (a++c):=by
 rw[A1E H6,hc,←ha,List.take_left,A4F E4,A4S]
theorem cut_bvs{l:List UInt8}{o n:Nat}(h:o+n≤l.length):cut (bvs l) o n=bvs ((l.drop o).take n):=by
 by_cases hn:n=0
 ·subst hn
  unfold cut
  split
  ·rename_i hc
   rw[I2] at hc
   have:l=[]:=A6e hc.2
   subst this;simp
  ·simp[bvs]
 ·exact(cut_of_cells (l:=(l.drop o).take n) G7 H6 (fun i x hi=>by
   rw[A5h] at hi
   split at hi
   ·rw[A5G] at hi;exact bvs_at hi
   ·cases hi)).2
theorem cut_low{a b:List UInt8}(ha:a.length=16)(hb:b.length=16):cut (bvs (a++b)) 0 16=bvs a:=by
 rw[cut_bvs E4,A5V,←ha,List.take_left]
theorem cut_high{a b:List UInt8}(ha:a.length=16)(hb:b.length=16):cut (bvs (a++b)) 16 16=bvs b:=by
 rw[cut_bvs E4]
 conv=>lhs;rw[←ha]
 rw[List.drop_left,A4B H6]
theorem turnL_rest{F:List UInt8→List UInt8→List UInt8}{T:Nat→List UInt8}{back:Bool}{l:List UInt8}{pl r:Nat}(h:l.length=16*(pl+1)+r)(h0:0<r)(h1:r<16) :
  turnL F T back l=headL F T l pl++(F (T (if back then pl else pl+1)) (l.drop (pl*16+16)++(F (T (if back then pl+1 else pl)) (blockAt l pl)).drop r)++(F (T (if back then pl+1 else pl)) (blockAt l pl)).take r):=by
 unfold turnL
 rw[if_neg H6,show l.length / 16=pl+1 by omega,show l.length % 16=r by omega,Nat.add_sub_cancel,show 16*(pl+1)=pl*16+16 by omega]
theorem text_rest{c l:List UInt8}{pl r:Nat}(h:l.length=16*(pl+1)+r)(hc:c.length=16):ovw (bvs c) 0 ((l.drop (pl*16+16)).take r)=bvs (l.drop (pl*16+16)++c.drop r):=by
 rw[O4,A4Y,A4x,A4B (by rw[A4J];omega),A4J,A4D,show l.length - (pl*16+16)=r by omega]
theorem rest_len{c l:List UInt8}{pl r:Nat}(h:l.length=16*(pl+1)+r)(hc:c.length=16)(hr:r<16):(l.drop (pl*16+16)++c.drop r).length=16:=by
 rw[A4p,A4J,A4J];omega
theorem out_one{H c:List UInt8}{n pl r:Nat}(hH:H.length=16*pl)(hc:c.length=16)(hn:n=16*(pl+1)+r)(hr:r<16) :
  ovw (bvs (H++zs (n - 16*pl))) (pl*16+16) ((c.take r).take (n - (pl*16+16)))=bvs (H++zs 16++c.take r):=by
 rw[A4B E8,O4,A4u,hc,A6b H6]
 rw[A4F (by rw[A4p,zs_len];omega),A4S]
 congr 1
 congr 1
 rw[List.take_append,A4B H6,hH,show pl*16+16 - 16*pl=16 by omega]
 congr 1
 unfold zs
 rw[List.take_replicate]
 congr 1
 omega
theorem out_two{H c d:List UInt8}{n pl r:Nat}(hH:H.length=16*pl)(hc:c.length=16)(hd:d.length=r)(hn:n=16*(pl+1)+r) :
  ovw (bvs (H++(zs 16++d))) (pl*16) (c.take (n - pl*16))=bvs (H++(c++d)):=by
 rw[A4B H6,O4,hc,A4Z H6,A4B H6]
 congr 2
 congr 1
 rw[A5O,A4F H6,A4x,hH,show pl*16+16 - 16*pl=16 by omega,A5l F8,A4F F8,A4x]
theorem A4b{w:World}{g n c:Nat}{t:TypeId}{fr:Nat × Nat}{L:List UInt8}(h:blk w g=some (.cells (bvs L) t fr))(hn:n≤L.length)(hc:n≤c):BytesAt w (.slice (some ⟨g,0,none⟩) n c) (L.take n):=by
 have:=T4 (o:=0) (n:=n) (c:=c) h H6 hc
 rwa [A5V] at this
theorem blk_putObj(w:World)(D i:Nat)(o:Obj)(h:¬i=D):blk (w.putObj D o) i=blk w i:=World.putObj_heap_other (fun e=>h e)
theorem A4d{B:Nat}{w0 w:World}(h:Below B w0 w){D:Nat}(hD:B≤D)(o:Obj):Below B w0 (w.putObj D o) :=
 h.trans ⟨rfl,rfl,rfl,by simp,fun k hk=>World.putObj_heap_other H6⟩
theorem run_rest(F:List UInt8→List UInt8→List UInt8)(hF:∀t x,t.length=16→x.length=16→(F t x).length=16)(first l:List UInt8)(hfirst:first.length=16)(back:Bool)(rv fv tv:Value)(wb:Nat)(w:World)
  (hwb:blk w wb=some (.cells (wkC rv fv first) 188 (0,0)))(ht:BytesAt w tv l)(hm:¬l.length % 16=0)(h1:16≤l.length)(h2:l.length≤65536)
  (HB:∀w',Below w.heap.size w w'→∀t x,t.length=16→x.length=16→Calls Tryz.prog 109 #[.pointer (some ⟨wb,0,none⟩),.agg (bvs t),.agg (bvs x)] w' fun e w2=>e=.returned (.agg (bvs (F t x)))∧Below w'.heap.size w' w2) :
  Calls Tryz.prog 63 #[.pointer (some ⟨wb,0,none⟩),tv,.bool back] w fun e w'=>∃g,e=.returned (.slice (some ⟨g,0,none⟩) l.length l.length)∧w.heap.size≤g∧blk w' g=some (.cells (bvs (turnL F (dblIt first) back l)) 5 (0,0))∧Below w.heap.size w w':=by
 obtain⟨tp,tc,rfl,htc⟩:=ht.slice
 obtain⟨tb,tO,rfl⟩:=ht.ptr H6
 have hwl:=J5 hwb
 have c2:cut (wkC rv fv first) 2 16=bvs first:=wkC_cut _ _ _ hfirst
 have c3:csz (wkC rv fv first)=18:=by rw[wkC_size,hfirst]
 have s1:csz (bvs (zs 16))=16:=by rw[I2,zs_len]
 have s2:csz (bvs first)=16:=by rw[I2,hfirst]
 have z:=zs16;have e0:=zs_ne;have z3:=zs32
 have HBH:=hid HB;have HT:=hid ht;have HFH:=hid hF;have HFI:=hid hfirst
 obtain⟨n,hn⟩:∃n,n=l.length:=⟨_,rfl⟩
 have HN:=hid hn
 have hcs:=text_cells ht (by rw[←hn];omega)
 rw[←hn] at h1 h2 htc ⊢
 obtain⟨cs,tt,fr,htb,hcut⟩:=hcs
 have HCUT:=hid (fun k (hk:k*16+16≤n)=>hcut k (by rw[←hn];exact hk))
 obtain⟨q,r,hnq,hr16⟩:∃q r,n=16*q+r∧r<16:=⟨n / 16,n % 16,by omega,by omega⟩
 have p0:(n:Int) / 16=(q:Int):=by omega
 have p2:(n:Int) % 16=(r:Int):=by omega
 have p1:(n:Int)≤281474976710656:=by omega
 have HNQ:=hid hnq
 have HDL:=hid (fun k=>A0d hfirst k)
 have HDS:=hid (fun k=>show csz (bvs (dblIt first k))=16 by rw[I2,A0d hfirst])
 clear HB hF hfirst ht hn hnq hcut
 refine S6 Tryz.func63 rfl ?_
 simp only[Tryz.ntmps63,A4V,A4G,A4W,Nat.reduceAdd,Nat.reduceSub,A5r,A5s,A5E,A5u,A4x,A4K]
 have hr:¬r=0:=by have:=HN.out;have:=HNQ.out;omega
 obtain⟨pl,rfl⟩:∃pl,q=pl+1:=⟨q - 1,by omega⟩
 have p0:(n:Int) / 16=(pl:Int)+1:=by omega
 have p3:(0:Int)<(r:Int):=by omega
 have p4:((r:Int) == 0)=false:=by simp;omega
 go_wp2_with fail
 go_step3
 go_wp2_with fail
 go_step3
 go_wp2_with fail
 (with_reducible refine(tweaks_any first HFI.out _).mono ?_)
 rintro e w1 ⟨rfl,rfl⟩
 have hS:=show St w (((((((((w.alloc (Obj.cells #[Value.pointer (some ⟨wb,0,none⟩)] 132)).alloc (Obj.cells #[Value.slice (some ⟨tb,tO,none⟩) n tc] 63)).alloc (Obj.cells (bvs (zs n)) 5)).alloc
          (Obj.cells #[Value.slice (some ⟨w.heap.size+1+1,0,none⟩) n n] 63)).alloc (Obj.cells #[Value.int .i64 ((pl:Int)+1)] 3)).alloc (Obj.cells #[Value.int .i64 r] 3)).alloc (Obj.cells #[Value.int .i64 pl] 3)).alloc (Obj.cells (bvs (zs 32)) 193)).alloc (Obj.cells (bvs first) 181))
  [(w.heap.size+1+1+1+1+1+1+1+1,bvs first,181),(w.heap.size+1+1+1+1+1+1+1,bvs (zs 32),193),(w.heap.size+1+1+1+1+1+1,#[Value.int .i64 pl],3),(w.heap.size+1+1+1+1+1,#[Value.int .i64 r],3),(w.heap.size+1+1+1+1,#[Value.int .i64 ((pl:Int)+1)],3),
   (w.heap.size+1+1+1,#[Value.slice (some ⟨w.heap.size+1+1,0,none⟩) n n],63),(w.heap.size+1+1,bvs (zs n),5),(w.heap.size+1,#[Value.slice (some ⟨tb,tO,none⟩) n tc],63),(w.heap.size,#[Value.pointer (some ⟨wb,0,none⟩)],132)] from(St.alloc' (St.alloc' (St.alloc' (St.alloc' (St.alloc' (St.alloc' (St.alloc' (St.alloc' (St.alloc' (St.start w) F7) F7) F7) F7) F7) F7) F7) F7) F7)
 go_wp2_with fail
 have hit:=A4k first HFI.out _ _ (hS.blk 0 rfl)
 have hSL:St w _ [(w.heap.size+1+1,bvs (zs n),5),(w.heap.size+1+1+1+1+1+1+1,bvs (zs 32),193)]:=St.swap01 ((((((((hS.erase 0).erase 1).erase 1).erase 1).erase 1).erase 2).erase 2))
 refine A0G (els:=fun k=>#[.int .i64 (wrap64 k),.agg (bvs (dblIt first k))]) (N:=none) (R:=[w.heap.size+1+1+1+1+1+1+1+1]) (gf:=141) (lb:=#[.pointer (some ⟨w.heap.size+1+1+1+1+1+1+1+1,0,none⟩)]) H8 F2 hit (Below.refl _ _) (fun _=>rfl)
  (fun k L=>(k≤pl∧L=[(w.heap.size+1+1,bvs (headL F (dblIt first) l k++zs (n - 16*k)),5),(w.heap.size+1+1+1+1+1+1+1,bvs (zs 32),193)])∨(k=pl+1∧L=[(w.heap.size+1+1,bvs (headL F (dblIt first) l pl++zs (n - 16*pl)),5),(w.heap.size+1+1+1+1+1+1+1,bvs (dblIt first pl++zs 16),193)]))
  (fun c L=>c=.exit 0∧∃x,L=[x,(w.heap.size+1+1,bvs (headL F (dblIt first) l pl++zs (n - 16*pl)),5),(w.heap.size+1+1+1+1+1+1+1,bvs (dblIt first pl++dblIt first (pl+1)),193)]) (pl+2) (fun _ k L h=>by omega)
  [(w.heap.size+1+1,bvs (zs n),5),(w.heap.size+1+1+1+1+1+1+1,bvs (zs 32),193)] (.inl ⟨Nat.zero_le _,by simp[headL]⟩) hSL.holds ?R (fun k=>bvs (dblIt first k)) 181 ?act1 ?assign ?body ?done ?stop
 case R =>
  intro b hb
  obtain rfl:=A5w.1 hb
  exact⟨hS.lt 0 rfl,by simp;omega⟩
 case assign =>
  intro l0 k L W1 hI hIn K hK
  have hl:=HDS.out k
  gi_wp2
  have h5:=hIn.round.alloc (bvs (dblIt first k)) 181
  generalize W1.heap.size=b at *
  exact hK _ _ h5
 case body =>
  rintro l0 k L b W (⟨hk,rfl⟩|⟨rfl,rfl⟩) hIn _
  ·skip
   obtain⟨x,rfl,hIn,hB,l1,l2,l3,n1,n2,n3,n4,n5,n6⟩:=hIn.open3
   have hSx:=hSL.range hIn
   have ub:w.heap.size+9≤b:=by
    rcases hIn.rd.fresh (b,_) (A4t ..) with h|h
    ·rw[K5] at h;simp at h;omega
    ·simpa using h
   have u0:¬w.heap.size=b:=by omega
   have u1:¬w.heap.size+1=b:=by omega
   have u3:¬w.heap.size+1+1+1=b:=by omega
   have u4:¬w.heap.size+1+1+1+1=b:=by omega
   have u5:¬w.heap.size+1+1+1+1+1=b:=by omega
   have u6:¬w.heap.size+1+1+1+1+1+1=b:=by omega
   have u7:¬tb=b:=by have:=J5 htb;omega
   have v1:¬tb=w.heap.size+1+1:=by have:=J5 htb;omega
   have v2:¬tb=w.heap.size+1+1+1+1+1+1+1:=by have:=J5 htb;omega
   obtain⟨f0,g0,m0⟩:=hIn.far (hS.blk 8 rfl) G5
   obtain⟨f1,g1,m1⟩:=hIn.far (hS.blk 7 rfl) G5
   obtain⟨f3,g3,m3⟩:=hIn.far (hS.blk 5 rfl) G5
   obtain⟨f4,g4,m4⟩:=hIn.far (hS.blk 4 rfl) G5
   obtain⟨f5,g5,m5⟩:=hIn.far (hS.blk 3 rfl) G5
   obtain⟨f6,g6,m6⟩:=hIn.far (hS.blk 2 rfl) G5
   obtain⟨f7,_,t0,m7,_⟩:=hSx.far htb
   have HW:=hid (A3w k F4)
   have hl:=HDS.out k
   have HSx:=hid hSx;have HB:=hid hB
   clear hSx hB hIn hit hSL hS
   have hHead:=Y5 (f:=F) (T:=dblIt first) (fun j x hx=>HFH.out _ _ (HDL.out j) hx) (l:=l) k D5
   by_cases hkq:k<pl
   ·have hfit:=(HCUT.out k F4)
    obtain⟨k1,k2⟩:=hfit
    have HBL:=R9 (l:=l) (j:=k) D5
    have sB:csz (bvs (blockAt l k))=16:=by rw[I2,HBL]
    have hFL:=HFH.out _ _ (HDL.out k) HBL
    have sF:csz (bvs (F (dblIt first k) (blockAt l k)))=16:=by rw[I2,hFL]
    have HFL:=hid hFL
    have HBL:=hid HBL
    have HST:=hid (run_step hHead hFL (n:=n) (k:=k) F4)
    rw[←headL_succ] at HST
    have HHD:=hid hHead
    clear hFL hHead
    have a1:(0:Int)≤(k:Int)*16:=by omega
    have a2:(k:Int)*16≤(n:Int):=by have:=HNQ.out;omega
    have a4:¬tc=k*16:=by have:=HNQ.out;omega
    have a5:16≤n - k*16:=by have:=HNQ.out;omega
    have a6:¬n=k*16:=by omega
    have a7:k*16≤n:=by omega
    have a3:((k:Int)*16).toNat=k*16:=by omega
    rw[HW.out]
    gi_wp2_with fail
    refine L9 9 G8 G8 G8 ?_
    dsimp only[List.take,List.drop]
    repeat (first|(refine O9 (fun _=>rfl) ?_;simp only[Act.put,A4q,A4r,A4s])|(refine N8 rfl (fun _=>rfl) _ F5 ?_;simp only[Act.put,A4q,A4r,A4s])|(refine M9 rfl (fun _=>rfl) (fun K hK=>?_);apply Exists.intro;apply Exists.intro;apply Exists.intro;apply Exists.intro;refine⟨fun pB w' hw' hF=>?_,hK _ _ ?_⟩;(focus (have zw:=hw';obtain⟨zg,rfl⟩:=grow_of hw';(first|(have yd:=facts_of (hF.at (List.Mem.head _) G3);obtain⟨yb0,yc0,yf0,yl0⟩:=yd)|skip);(first|(have yd:=facts_of (hF.at (List.Mem.tail _ (List.Mem.head _)) G3);obtain⟨yb1,yc1,yf1,yl1⟩:=yd)|skip);go_simp;(first|done|rfl|exact⟨⟨rfl,rfl⟩,rfl⟩|(refine⟨?_,?_⟩<;>rfl)|(refine⟨⟨?_,?_⟩,?_⟩<;>rfl)|(refine⟨⟨?_,?_⟩,⟨?_,?_⟩⟩<;>rfl))));clear hK K;simp only[Act.put,A4q,A4r,A4s])|(refine L5 (fun _=>rfl) (fun K hK=>?_);apply Exists.intro;refine⟨fun pB w' hw' hF=>?_,hK _ _ ?_⟩;(focus (have zw:=hw';generalize hCC:Below w'.heap.size w'=CC;have HCC:=hid hCC;clear hCC;obtain⟨zg,rfl⟩:=grow_of hw';(first|(have yd:=facts_of (hF.at (List.Mem.head _) G3);obtain⟨yb0,yc0,yf0,yl0⟩:=yd)|skip);(first|(have yd:=facts_of (hF.at (List.Mem.tail _ (List.Mem.head _)) G3);obtain⟨yb1,yc1,yf1,yl1⟩:=yd)|skip);go_simp;(try (go_bits;go_simp));first|done|rfl|(first|((with_reducible refine(HBH.out _ ?_ _ _ ?_ ?_).mono fun e w2 h2=>⟨h2.1,by rw[←HCC.out];exact h2.2⟩);((focus exact A1R (HSx.out.put3 _ _ _).below _);(focus exact HDL.out k);(focus exact HBL))))));clear hK K;simp only[Act.put,A4q,A4r,A4s]))
    refine R8 ?_
    intro pB wq hcq hfq hnq
    obtain⟨gq,rfl⟩:=grow_of hcq
    clear hcq
    have hsp:=hfq _ (A4t ..)
    simp only at hsp
    dsimp only
    obtain⟨hsp1,hsp2⟩:=hsp
    generalize hpb:pB _=nb at *
    obtain⟨ga,gb,hgs,rfl⟩:=grow_split hsp1 hsp2
    rw[hgs]
    clear hgs hsp1 hsp2 hpb hfq hnq
    try simp only[A2A,A1B,World.size_alloc]
    gi_wp2_with fail
    refine L9 4 G8 G8 G8 ?_
    dsimp only[List.take,List.drop]
    repeat (first|(refine O9 (fun _=>rfl) ?_;simp only[Act.put,A4q,A4r,A4s])|(refine N8 rfl (fun _=>rfl) _ F5 ?_;simp only[Act.put,A4q,A4r,A4s])|(refine M9 rfl (fun _=>rfl) (fun K hK=>?_);apply Exists.intro;apply Exists.intro;apply Exists.intro;apply Exists.intro;refine⟨fun pB w' hw' hF=>?_,hK _ _ ?_⟩;(focus (have zw:=hw';obtain⟨zg,rfl⟩:=grow_of hw';(first|(have yd:=facts_of (hF.at (List.Mem.head _) G3);obtain⟨yb0,yc0,yf0,yl0⟩:=yd)|skip);(first|(have yd:=facts_of (hF.at (List.Mem.tail _ (List.Mem.head _)) G3);obtain⟨yb1,yc1,yf1,yl1⟩:=yd)|skip);go_simp;(first|done|rfl|exact⟨⟨rfl,rfl⟩,rfl⟩|(refine⟨?_,?_⟩<;>rfl)|(refine⟨⟨?_,?_⟩,?_⟩<;>rfl)|(refine⟨⟨?_,?_⟩,⟨?_,?_⟩⟩<;>rfl))));clear hK K;simp only[Act.put,A4q,A4r,A4s])|(refine L5 (fun _=>rfl) (fun K hK=>?_);apply Exists.intro;refine⟨fun pB w' hw' hF=>?_,hK _ _ ?_⟩;(focus (have zw:=hw';generalize hCC:Below w'.heap.size w'=CC;have HCC:=hid hCC;clear hCC;obtain⟨zg,rfl⟩:=grow_of hw';(first|(have yd:=facts_of (hF.at (List.Mem.head _) G3);obtain⟨yb0,yc0,yf0,yl0⟩:=yd)|skip);(first|(have yd:=facts_of (hF.at (List.Mem.tail _ (List.Mem.head _)) G3);obtain⟨yb1,yc1,yf1,yl1⟩:=yd)|skip);go_simp;(try (go_bits;go_simp));first|done|rfl|(first|fail)));clear hK K;simp only[Act.put,A4q,A4r,A4s]))
    refine R8 ?_
    intro pB wq hcq hfq hnq
    obtain⟨gq,rfl⟩:=grow_of hcq
    clear hcq
    refine wpIn_copy (elem:=5) rfl rfl G8 G8 rfl rfl D1 (J9 D1 HFL.out) ?_ ?_
    ·rw[I2,A4p,zs_len,HHD.out,A4u,HFL.out];omega
    ·rw[HST.out]
     have hB:=HB.out
     gi_wp2
     exact⟨_,In.tail ((((((HB.out.put3 _ _ _).grow ga).skip _).grow gb).grow gq).setRow 1 rfl _),.inl ⟨by omega,rfl⟩⟩
   ·obtain rfl:k=pl:=by omega
    clear hHead
    have hkk:¬(k:Int)<(k:Int):=by omega
    have HP1:=hid (paste_first (c:=dblIt first k) (HDL.out _))
    have hkw:((k:Int) == (k:Int)+1)=false:=by simp;omega
    rw[HW.out]
    gi_wp2
    rw[HP1.out]
    exact⟨_,In.tail (HB.out.put3 _ _ _),.inr rfl⟩
  ·skip
   obtain⟨x,rfl,hIn,hB,l1,l2,l3,n1,n2,n3,n4,n5,n6⟩:=hIn.open3
   have hSx:=hSL.range hIn
   have ub:w.heap.size+9≤b:=by
    rcases hIn.rd.fresh (b,_) (A4t ..) with h|h
    ·rw[K5] at h;simp at h;omega
    ·simpa using h
   have u0:¬w.heap.size=b:=by omega
   have u1:¬w.heap.size+1=b:=by omega
   have u3:¬w.heap.size+1+1+1=b:=by omega
   have u4:¬w.heap.size+1+1+1+1=b:=by omega
   have u5:¬w.heap.size+1+1+1+1+1=b:=by omega
   have u6:¬w.heap.size+1+1+1+1+1+1=b:=by omega
   have u7:¬tb=b:=by have:=J5 htb;omega
   have v1:¬tb=w.heap.size+1+1:=by have:=J5 htb;omega
   have v2:¬tb=w.heap.size+1+1+1+1+1+1+1:=by have:=J5 htb;omega
   obtain⟨f0,g0,m0⟩:=hIn.far (hS.blk 8 rfl) G5
   obtain⟨f1,g1,m1⟩:=hIn.far (hS.blk 7 rfl) G5
   obtain⟨f3,g3,m3⟩:=hIn.far (hS.blk 5 rfl) G5
   obtain⟨f4,g4,m4⟩:=hIn.far (hS.blk 4 rfl) G5
   obtain⟨f5,g5,m5⟩:=hIn.far (hS.blk 3 rfl) G5
   obtain⟨f6,g6,m6⟩:=hIn.far (hS.blk 2 rfl) G5
   obtain⟨f7,_,t0,m7,_⟩:=hSx.far htb
   have HW:=hid (A3w (pl+1) F4)
   have hl:=HDS.out (pl+1)
   have HSx:=hid hSx;have HB:=hid hB
   clear hSx hB hIn hit hSL hS
   have hkk:¬((pl:Int)+1)<(pl:Int):=by omega
   have hp2:=hid (paste_second (c:=dblIt first pl) (d:=dblIt first (pl+1)) (HDL.out _) (HDL.out _))
   have s9:csz (bvs (dblIt first pl++zs 16))=32:=by rw[I2,A4p,HDL.out,zs_len]
   have hkd:(pl:Int)+1 - pl=1:=by omega
   have hkc:((pl+1:Nat):Int)=(pl:Int)+1:=by omega
   rw[HW.out,hkc]
   clear hkc
   gi_wp2
   rw[hp2.out]
   exact⟨_,HB.out.put3 _ _ _,rfl,_,_,_,rfl⟩
 case done=>intro D n L W1 h;cases h
 case stop =>
  rintro D c L W1 ⟨rfl,x0,rfl⟩ hIn hD hD0
  have hIn2:=hIn.tail
  have dg:¬D=w.heap.size+1+1:=fun e=>by have h:=(hIn2.at 0 rfl).1;rw[←e] at h;exact absurd (hD.symm.trans h) H7
  have ds:¬D=w.heap.size+1+1+1+1+1+1+1:=fun e=>by have h:=(hIn2.at 1 rfl).1;rw[←e] at h;exact absurd (hD.symm.trans h) H7
  obtain⟨x,rfl,hIn3,l1,l2,n1,n2⟩:=hIn2.open2
  have hSx:=hSL.range hIn3
  obtain⟨f0,g0,m0⟩:=hIn3.far (hS.blk 8 rfl) G5
  obtain⟨f1,g1,m1⟩:=hIn3.far (hS.blk 7 rfl) G5
  obtain⟨f3,g3,m3⟩:=hIn3.far (hS.blk 5 rfl) G5
  obtain⟨f4,g4,m4⟩:=hIn3.far (hS.blk 4 rfl) G5
  obtain⟨f5,g5,m5⟩:=hIn3.far (hS.blk 3 rfl) G5
  obtain⟨f6,g6,m6⟩:=hIn3.far (hS.blk 2 rfl) G5
  obtain⟨f7,_,tl0,m7,_⟩:=hSx.far htb
  have v1:¬tb=w.heap.size+1+1:=by omega
  have v2:¬tb=w.heap.size+1+1+1+1+1+1+1:=by omega
  have hDx:blk x D=some (.deferred (some [])):=by
   have h:blk _ D=some (.deferred (some [])):=hD
   rwa [A3s _ _ _ _ _ dg,A3s _ _ _ _ _ ds] at h
  have hDl:=J5 hDx
  have hDw:w.heap.size≤D:=A4T (hSL.below.size) hD0
  have hfit:=(HCUT.out pl F4)
  obtain⟨k1,k2⟩:=hfit
  have HBL:=hid (R9 (l:=l) (j:=pl) D5)
  have sB:csz (bvs (blockAt l pl))=16:=by rw[I2,HBL.out]
  have HHD:=hid (Y5 (f:=F) (T:=dblIt first) (fun j x hx=>HFH.out _ _ (HDL.out j) hx) (l:=l) pl D5)
  have a1:(0:Int)≤(pl:Int)*16:=by omega
  have a2:(pl:Int)*16≤(n:Int):=by have:=HNQ.out;omega
  have a4:¬tc=pl*16:=by have:=HNQ.out;omega
  have a5:16≤n - pl*16:=by have:=HNQ.out;omega
  have a6:¬n=pl*16:=by omega
  have a7:pl*16≤n:=by omega
  have b1:(0:Int)≤(pl:Int)*16+16:=by omega
  have b2:(pl:Int)*16+16≤(n:Int):=by have:=HNQ.out;omega
  have b4:¬tc=pl*16+16:=by have:=HNQ.out;omega
  have b5:¬n=pl*16+16:=by have:=HNQ.out;omega
  have b6:pl*16+16≤n:=by omega
  have r1:(r:Int)≤16:=by omega
  have r2:r≤16:=by omega
  have b7:=IntWalk.i64_in ((pl:Int)*16+16) F4
  have b3:((pl:Int)*16+16).toNat=pl*16+16:=by omega
  have a3:((pl:Int)*16).toNat=pl*16:=by omega
  have HT2:Hid (BytesAt w (.slice (some ⟨tb,tO,none⟩) n tc) l):=by have h:=HT.out;rw[←HN.out] at h;exact h
  have HSx:=hid hSx
  have hWx:=hSx.below
  clear hIn hIn2 hIn3 hit hSL hS hSx hD
  cases back
  ·skip
   have x1:=cut_low (HDL.out pl) (HDL.out (pl+1))
   have x2:=cut_high (HDL.out pl) (HDL.out (pl+1))
   have x3:csz (bvs (dblIt first pl++dblIt first (pl+1)))=32:=by rw[I2,A4p,HDL.out,HDL.out]
   have y0:=HDS.out pl
   have y1:=HDS.out (pl+1)
   have HFIN:=hid (turnL_rest (F:=F) (T:=dblIt first) (back:=false) (l:=l) (pl:=pl) (r:=r) D5 H6 H6)
   simp only[if_true,if_false,Bool.false_eq_true] at HFIN
   have hC0:=HFH.out _ _ (HDL.out pl) HBL.out
   have q0:csz (bvs (F (dblIt first pl) (blockAt l pl)))=16:=by rw[I2,hC0]
   obtain⟨C0,hC00⟩:∃C0,F (dblIt first pl) (blockAt l pl)=C0:=⟨_,rfl⟩
   have HF0:=hid (fun w' (hb:Below w.heap.size w w')=>HBH.out w' hb (dblIt first pl) (blockAt l pl) (HDL.out _) HBL.out)
   rw[hC00] at HF0 hC0 HFIN q0
   have HC0:=hid hC0
   have hR:=hid (text_rest (c:=C0) (l:=l) (pl:=pl) (r:=r) D5 hC0)
   have HC1:=hid (rest_len (c:=C0) (l:=l) (pl:=pl) (r:=r) D5 hC0 H6)
   obtain⟨C1,hC1⟩:∃C1,l.drop (pl*16+16)++C0.drop r=C1:=⟨_,rfl⟩
   rw[hC1] at hR HC1 HFIN
   have q1:csz (bvs C1)=16:=by rw[I2,HC1.out]
   have hC2:=HFH.out _ _ (HDL.out (pl+1)) HC1.out
   have HF1:=hid (fun w' (hb:Below w.heap.size w w')=>HBH.out w' hb (dblIt first (pl+1)) C1 (HDL.out _) HC1.out)
   obtain⟨C2,hC22⟩:∃C2,F (dblIt first (pl+1)) C1=C2:=⟨_,rfl⟩
   rw[hC22] at hC2 HF1 HFIN
   have q2:csz (bvs C2)=16:=by rw[I2,hC2]
   have HC2:=hid hC2
   have HO1:=hid (out_one (H:=headL F (dblIt first) l pl) (c:=C0) (n:=n) (pl:=pl) (r:=r) HHD.out hC0 F4 H6)
   have HO2:=hid (out_two (H:=headL F (dblIt first) l pl) (c:=C2) (d:=C0.take r) (n:=n) (pl:=pl) (r:=r) HHD.out hC2 (by rw[A4u,hC0];omega) F4)
   clear hC00 hC22 hC1 hC0 hC2
   generalize headL F (dblIt first) l pl=H at *
   go_wp2_with fail
   refine I5 10 G8 G8 ?_
   dsimp only[List.take,List.drop]
   repeat (first|(refine O9 (fun _=>rfl) ?_;simp only[Act.put,A4q,A4r,A4s])|(refine N8 rfl (fun _=>rfl) _ F5 ?_;simp only[Act.put,A4q,A4r,A4s])|(refine M9 rfl (fun _=>rfl) (fun K hK=>?_);apply Exists.intro;apply Exists.intro;apply Exists.intro;apply Exists.intro;refine⟨fun pB w' hw' hF=>?_,hK _ _ ?_⟩;(focus (have zw:=hw';obtain⟨zg,rfl⟩:=grow_of hw';(first|(have yd:=facts_of (hF.at (List.Mem.head _) G3);obtain⟨yb0,yc0,yf0,yl0⟩:=yd)|skip);(first|(have yd:=facts_of (hF.at (List.Mem.tail _ (List.Mem.head _)) G3);obtain⟨yb1,yc1,yf1,yl1⟩:=yd)|skip);go_simp;(first|done|rfl|exact⟨⟨rfl,rfl⟩,rfl⟩|(refine⟨?_,?_⟩<;>rfl)|(refine⟨⟨?_,?_⟩,?_⟩<;>rfl)|(refine⟨⟨?_,?_⟩,⟨?_,?_⟩⟩<;>rfl))));clear hK K;simp only[Act.put,A4q,A4r,A4s])|(refine L5 (fun _=>rfl) (fun K hK=>?_);apply Exists.intro;refine⟨fun pB w' hw' hF=>?_,hK _ _ ?_⟩;(focus (have zw:=hw';generalize hCC:Below w'.heap.size w'=CC;have HCC:=hid hCC;clear hCC;obtain⟨zg,rfl⟩:=grow_of hw';(first|(have yd:=facts_of (hF.at (List.Mem.head _) G3);obtain⟨yb0,yc0,yf0,yl0⟩:=yd)|skip);(first|(have yd:=facts_of (hF.at (List.Mem.tail _ (List.Mem.head _)) G3);obtain⟨yb1,yc1,yf1,yl1⟩:=yd)|skip);go_simp;(try (go_bits;go_simp));first|done|rfl|(first|((with_reducible refine(HF0.out _ ?_).mono fun e w2 h2=>⟨h2.1,by rw[←HCC.out];exact h2.2⟩);exact A1R (HSx.out.put2 _ _).below _))));clear hK K;simp only[Act.put,A4q,A4r,A4s]))
   refine R8 ?_
   intro pB wq hcq hfq hnq
   obtain⟨gq,rfl⟩:=grow_of hcq
   clear hcq
   have hsp:=hfq _ (A4t ..)
   simp only at hsp
   dsimp only
   obtain⟨hsp1,hsp2⟩:=hsp
   generalize hpb:pB _=nb at *
   obtain⟨ga,gb,hgs,rfl⟩:=grow_split hsp1 hsp2
   rw[hgs]
   clear hgs hsp1 hsp2 hpb hfq hnq
   try simp only[A2A,A1B,World.size_alloc]
   go_wp2_with fail
   refine I5 6 G8 G8 ?_
   dsimp only[List.take,List.drop]
   repeat (first|(refine O9 (fun _=>rfl) ?_;simp only[Act.put,A4q,A4r,A4s])|(refine N8 rfl (fun _=>rfl) _ F5 ?_;simp only[Act.put,A4q,A4r,A4s])|(refine M9 rfl (fun _=>rfl) (fun K hK=>?_);apply Exists.intro;apply Exists.intro;apply Exists.intro;apply Exists.intro;refine⟨fun pB w' hw' hF=>?_,hK _ _ ?_⟩;(focus (have zw:=hw';obtain⟨zg,rfl⟩:=grow_of hw';(first|(have yd:=facts_of (hF.at (List.Mem.head _) G3);obtain⟨yb0,yc0,yf0,yl0⟩:=yd)|skip);(first|(have yd:=facts_of (hF.at (List.Mem.tail _ (List.Mem.head _)) G3);obtain⟨yb1,yc1,yf1,yl1⟩:=yd)|skip);go_simp;(first|done|rfl|exact⟨⟨rfl,rfl⟩,rfl⟩|(refine⟨?_,?_⟩<;>rfl)|(refine⟨⟨?_,?_⟩,?_⟩<;>rfl)|(refine⟨⟨?_,?_⟩,⟨?_,?_⟩⟩<;>rfl))));clear hK K;simp only[Act.put,A4q,A4r,A4s])|(refine L5 (fun _=>rfl) (fun K hK=>?_);apply Exists.intro;refine⟨fun pB w' hw' hF=>?_,hK _ _ ?_⟩;(focus (have zw:=hw';generalize hCC:Below w'.heap.size w'=CC;have HCC:=hid hCC;clear hCC;obtain⟨zg,rfl⟩:=grow_of hw';(first|(have yd:=facts_of (hF.at (List.Mem.head _) G3);obtain⟨yb0,yc0,yf0,yl0⟩:=yd)|skip);(first|(have yd:=facts_of (hF.at (List.Mem.tail _ (List.Mem.head _)) G3);obtain⟨yb1,yc1,yf1,yl1⟩:=yd)|skip);go_simp;(try (go_bits;go_simp));first|done|rfl|(first|fail)));clear hK K;simp only[Act.put,A4q,A4r,A4s]))
   refine R8 ?_
   intro pB wq hcq hfq hnq
   obtain⟨gq,rfl⟩:=grow_of hcq
   clear hcq
   refine A2Z (elem:=5) rfl rfl G8 G8 rfl rfl D1 (A4b (n:=r) (L:=C0) D1 (by rw[HC0.out];exact r2) r2) ?_ ?_
   ·rw[I2,A4p,zs_len,HHD.out,A4u,A4u,HC0.out];omega
   ·rw[HO1.out]
    go_wp2_with fail
    refine I5 6 G8 G8 ?_
    dsimp only[List.take,List.drop]
    repeat (first|(refine O9 (fun _=>rfl) ?_;simp only[Act.put,A4q,A4r,A4s])|(refine N8 rfl (fun _=>rfl) _ F5 ?_;simp only[Act.put,A4q,A4r,A4s])|(refine M9 rfl (fun _=>rfl) (fun K hK=>?_);apply Exists.intro;apply Exists.intro;apply Exists.intro;apply Exists.intro;refine⟨fun pB w' hw' hF=>?_,hK _ _ ?_⟩;(focus (have zw:=hw';obtain⟨zg,rfl⟩:=grow_of hw';(first|(have yd:=facts_of (hF.at (List.Mem.head _) G3);obtain⟨yb0,yc0,yf0,yl0⟩:=yd)|skip);(first|(have yd:=facts_of (hF.at (List.Mem.tail _ (List.Mem.head _)) G3);obtain⟨yb1,yc1,yf1,yl1⟩:=yd)|skip);go_simp;(first|done|rfl|exact⟨⟨rfl,rfl⟩,rfl⟩|(refine⟨?_,?_⟩<;>rfl)|(refine⟨⟨?_,?_⟩,?_⟩<;>rfl)|(refine⟨⟨?_,?_⟩,⟨?_,?_⟩⟩<;>rfl))));clear hK K;simp only[Act.put,A4q,A4r,A4s])|(refine L5 (fun _=>rfl) (fun K hK=>?_);apply Exists.intro;refine⟨fun pB w' hw' hF=>?_,hK _ _ ?_⟩;(focus (have zw:=hw';generalize hCC:Below w'.heap.size w'=CC;have HCC:=hid hCC;clear hCC;obtain⟨zg,rfl⟩:=grow_of hw';(first|(have yd:=facts_of (hF.at (List.Mem.head _) G3);obtain⟨yb0,yc0,yf0,yl0⟩:=yd)|skip);(first|(have yd:=facts_of (hF.at (List.Mem.tail _ (List.Mem.head _)) G3);obtain⟨yb1,yc1,yf1,yl1⟩:=yd)|skip);go_simp;(try (go_bits;go_simp));first|done|rfl|(first|fail)));clear hK K;simp only[Act.put,A4q,A4r,A4s]))
    refine R8 ?_
    intro pB wq hcq hfq hnq
    obtain⟨gq,rfl⟩:=grow_of hcq
    clear hcq
    refine A2Z (elem:=5) rfl rfl G8 G8 rfl rfl D1 ((HT2.out.below A3).from (pl*16+16) b6) ?_ ?_
    ·rw[q0,A4D];exact A4T (List.length_take_le _ _) r2
    ·rw[hR.out]
     go_wp2_with fail
     (with_reducible refine(HF1.out _ ?_).mono ?_)
     ·exact A3
     ·rintro e wz ⟨rfl,hb⟩
      obtain⟨g9,rfl⟩:=grow_of hb
      clear hb
      go_wp2_with fail
      refine I5 4 G8 G8 ?_
      dsimp only[List.take,List.drop]
      repeat (first|(refine O9 (fun _=>rfl) ?_;simp only[Act.put,A4q,A4r,A4s])|(refine N8 rfl (fun _=>rfl) _ F5 ?_;simp only[Act.put,A4q,A4r,A4s])|(refine M9 rfl (fun _=>rfl) (fun K hK=>?_);apply Exists.intro;apply Exists.intro;apply Exists.intro;apply Exists.intro;refine⟨fun pB w' hw' hF=>?_,hK _ _ ?_⟩;(focus (have zw:=hw';obtain⟨zg,rfl⟩:=grow_of hw';(first|(have yd:=facts_of (hF.at (List.Mem.head _) G3);obtain⟨yb0,yc0,yf0,yl0⟩:=yd)|skip);(first|(have yd:=facts_of (hF.at (List.Mem.tail _ (List.Mem.head _)) G3);obtain⟨yb1,yc1,yf1,yl1⟩:=yd)|skip);go_simp;(first|done|rfl|exact⟨⟨rfl,rfl⟩,rfl⟩|(refine⟨?_,?_⟩<;>rfl)|(refine⟨⟨?_,?_⟩,?_⟩<;>rfl)|(refine⟨⟨?_,?_⟩,⟨?_,?_⟩⟩<;>rfl))));clear hK K;simp only[Act.put,A4q,A4r,A4s])|(refine L5 (fun _=>rfl) (fun K hK=>?_);apply Exists.intro;refine⟨fun pB w' hw' hF=>?_,hK _ _ ?_⟩;(focus (have zw:=hw';generalize hCC:Below w'.heap.size w'=CC;have HCC:=hid hCC;clear hCC;obtain⟨zg,rfl⟩:=grow_of hw';(first|(have yd:=facts_of (hF.at (List.Mem.head _) G3);obtain⟨yb0,yc0,yf0,yl0⟩:=yd)|skip);(first|(have yd:=facts_of (hF.at (List.Mem.tail _ (List.Mem.head _)) G3);obtain⟨yb1,yc1,yf1,yl1⟩:=yd)|skip);go_simp;(try (go_bits;go_simp));first|done|rfl|(first|fail)));clear hK K;simp only[Act.put,A4q,A4r,A4s]))
      refine R8 ?_
      intro pB wq hcq hfq hnq
      obtain⟨gq,rfl⟩:=grow_of hcq
      clear hcq
      refine A2Z (elem:=5) rfl rfl G8 G8 rfl rfl D1 (J9 D1 HC2.out) ?_ ?_
      ·rw[I2,A4p,A4p,zs_len,HHD.out,A4u,A4u,HC2.out,HC0.out];omega
      ·rw[HO2.out]
       go_wp2
       rw[Exit.noGoto_ret]
       go_wp2
       have hSt:=HSx.out
       refine postM (.inl rfl) rfl (show blk _ D=_ by go_simp) ?_
       go_ret
       refine⟨_,rfl,by omega,?_,?_⟩
       ·rw[blk_putObj _ _ _ _ (fun e=>dg e.symm),HFIN.out]
        go_simp
       ·refine A4d ?_ hDw _
        exact A3
  ·skip
   have w1:paste (bvs (dblIt first pl++dblIt first (pl+1))) 0 (bvs (dblIt first (pl+1)))=bvs (dblIt first (pl+1)++dblIt first (pl+1)):=paste_low (HDL.out _) (HDL.out _) (HDL.out _)
   have w2:paste (bvs (dblIt first (pl+1)++dblIt first (pl+1))) 16 (bvs (dblIt first pl))=bvs (dblIt first (pl+1)++dblIt first pl):=paste_high (HDL.out _) (HDL.out _) (HDL.out _)
   have w3:=cut_low (HDL.out pl) (HDL.out (pl+1))
   have w4:=cut_high (HDL.out pl) (HDL.out (pl+1))
   have w5:csz (bvs (dblIt first pl++dblIt first (pl+1)))=32:=by rw[I2,A4p,HDL.out,HDL.out]
   have w6:csz (bvs (dblIt first (pl+1)++dblIt first (pl+1)))=32:=by rw[I2,A4p,HDL.out]
   have x1:=cut_low (HDL.out (pl+1)) (HDL.out pl)
   have x2:=cut_high (HDL.out (pl+1)) (HDL.out pl)
   have x3:csz (bvs (dblIt first (pl+1)++dblIt first pl))=32:=by rw[I2,A4p,HDL.out,HDL.out]
   have y0:=HDS.out (pl+1)
   have y1:=HDS.out pl
   have HFIN:=hid (turnL_rest (F:=F) (T:=dblIt first) (back:=true) (l:=l) (pl:=pl) (r:=r) D5 H6 H6)
   simp only[if_true,if_false,Bool.false_eq_true] at HFIN
   have hC0:=HFH.out _ _ (HDL.out (pl+1)) HBL.out
   have q0:csz (bvs (F (dblIt first (pl+1)) (blockAt l pl)))=16:=by rw[I2,hC0]
   obtain⟨C0,hC00⟩:∃C0,F (dblIt first (pl+1)) (blockAt l pl)=C0:=⟨_,rfl⟩
   have HF0:=hid (fun w' (hb:Below w.heap.size w w')=>HBH.out w' hb (dblIt first (pl+1)) (blockAt l pl) (HDL.out _) HBL.out)
   rw[hC00] at HF0 hC0 HFIN q0
   have HC0:=hid hC0
   have hR:=hid (text_rest (c:=C0) (l:=l) (pl:=pl) (r:=r) D5 hC0)
   have HC1:=hid (rest_len (c:=C0) (l:=l) (pl:=pl) (r:=r) D5 hC0 H6)
   obtain⟨C1,hC1⟩:∃C1,l.drop (pl*16+16)++C0.drop r=C1:=⟨_,rfl⟩
   rw[hC1] at hR HC1 HFIN
   have q1:csz (bvs C1)=16:=by rw[I2,HC1.out]
   have hC2:=HFH.out _ _ (HDL.out pl) HC1.out
   have HF1:=hid (fun w' (hb:Below w.heap.size w w')=>HBH.out w' hb (dblIt first pl) C1 (HDL.out _) HC1.out)
   obtain⟨C2,hC22⟩:∃C2,F (dblIt first pl) C1=C2:=⟨_,rfl⟩
   rw[hC22] at hC2 HF1 HFIN
   have q2:csz (bvs C2)=16:=by rw[I2,hC2]
   have HC2:=hid hC2
   have HO1:=hid (out_one (H:=headL F (dblIt first) l pl) (c:=C0) (n:=n) (pl:=pl) (r:=r) HHD.out hC0 F4 H6)
   have HO2:=hid (out_two (H:=headL F (dblIt first) l pl) (c:=C2) (d:=C0.take r) (n:=n) (pl:=pl) (r:=r) HHD.out hC2 (by rw[A4u,hC0];omega) F4)
   clear hC00 hC22 hC1 hC0 hC2
   generalize headL F (dblIt first) l pl=H at *
   go_wp2_with fail
   refine I5 10 G8 G8 ?_
   dsimp only[List.take,List.drop]
   repeat (first|(refine O9 (fun _=>rfl) ?_;simp only[Act.put,A4q,A4r,A4s])|(refine N8 rfl (fun _=>rfl) _ F5 ?_;simp only[Act.put,A4q,A4r,A4s])|(refine M9 rfl (fun _=>rfl) (fun K hK=>?_);apply Exists.intro;apply Exists.intro;apply Exists.intro;apply Exists.intro;refine⟨fun pB w' hw' hF=>?_,hK _ _ ?_⟩;(focus (have zw:=hw';obtain⟨zg,rfl⟩:=grow_of hw';(first|(have yd:=facts_of (hF.at (List.Mem.head _) G3);obtain⟨yb0,yc0,yf0,yl0⟩:=yd)|skip);(first|(have yd:=facts_of (hF.at (List.Mem.tail _ (List.Mem.head _)) G3);obtain⟨yb1,yc1,yf1,yl1⟩:=yd)|skip);go_simp;(first|done|rfl|exact⟨⟨rfl,rfl⟩,rfl⟩|(refine⟨?_,?_⟩<;>rfl)|(refine⟨⟨?_,?_⟩,?_⟩<;>rfl)|(refine⟨⟨?_,?_⟩,⟨?_,?_⟩⟩<;>rfl))));clear hK K;simp only[Act.put,A4q,A4r,A4s])|(refine L5 (fun _=>rfl) (fun K hK=>?_);apply Exists.intro;refine⟨fun pB w' hw' hF=>?_,hK _ _ ?_⟩;(focus (have zw:=hw';generalize hCC:Below w'.heap.size w'=CC;have HCC:=hid hCC;clear hCC;obtain⟨zg,rfl⟩:=grow_of hw';(first|(have yd:=facts_of (hF.at (List.Mem.head _) G3);obtain⟨yb0,yc0,yf0,yl0⟩:=yd)|skip);(first|(have yd:=facts_of (hF.at (List.Mem.tail _ (List.Mem.head _)) G3);obtain⟨yb1,yc1,yf1,yl1⟩:=yd)|skip);go_simp;(try (go_bits;go_simp));first|done|rfl|(first|((with_reducible refine(HF0.out _ ?_).mono fun e w2 h2=>⟨h2.1,by rw[←HCC.out];exact h2.2⟩);exact A1R (HSx.out.put2 _ _).below _))));clear hK K;simp only[Act.put,A4q,A4r,A4s]))
   refine R8 ?_
   intro pB wq hcq hfq hnq
   obtain⟨gq,rfl⟩:=grow_of hcq
   clear hcq
   have hsp:=hfq _ (A4t ..)
   simp only at hsp
   dsimp only
   obtain⟨hsp1,hsp2⟩:=hsp
   generalize hpb:pB _=nb at *
   obtain⟨ga,gb,hgs,rfl⟩:=grow_split hsp1 hsp2
   rw[hgs]
   clear hgs hsp1 hsp2 hpb hfq hnq
   try simp only[A2A,A1B,World.size_alloc]
   go_wp2_with fail
   refine I5 6 G8 G8 ?_
   dsimp only[List.take,List.drop]
   repeat (first|(refine O9 (fun _=>rfl) ?_;simp only[Act.put,A4q,A4r,A4s])|(refine N8 rfl (fun _=>rfl) _ F5 ?_;simp only[Act.put,A4q,A4r,A4s])|(refine M9 rfl (fun _=>rfl) (fun K hK=>?_);apply Exists.intro;apply Exists.intro;apply Exists.intro;apply Exists.intro;refine⟨fun pB w' hw' hF=>?_,hK _ _ ?_⟩;(focus (have zw:=hw';obtain⟨zg,rfl⟩:=grow_of hw';(first|(have yd:=facts_of (hF.at (List.Mem.head _) G3);obtain⟨yb0,yc0,yf0,yl0⟩:=yd)|skip);(first|(have yd:=facts_of (hF.at (List.Mem.tail _ (List.Mem.head _)) G3);obtain⟨yb1,yc1,yf1,yl1⟩:=yd)|skip);go_simp;(first|done|rfl|exact⟨⟨rfl,rfl⟩,rfl⟩|(refine⟨?_,?_⟩<;>rfl)|(refine⟨⟨?_,?_⟩,?_⟩<;>rfl)|(refine⟨⟨?_,?_⟩,⟨?_,?_⟩⟩<;>rfl))));clear hK K;simp only[Act.put,A4q,A4r,A4s])|(refine L5 (fun _=>rfl) (fun K hK=>?_);apply Exists.intro;refine⟨fun pB w' hw' hF=>?_,hK _ _ ?_⟩;(focus (have zw:=hw';generalize hCC:Below w'.heap.size w'=CC;have HCC:=hid hCC;clear hCC;obtain⟨zg,rfl⟩:=grow_of hw';(first|(have yd:=facts_of (hF.at (List.Mem.head _) G3);obtain⟨yb0,yc0,yf0,yl0⟩:=yd)|skip);(first|(have yd:=facts_of (hF.at (List.Mem.tail _ (List.Mem.head _)) G3);obtain⟨yb1,yc1,yf1,yl1⟩:=yd)|skip);go_simp;(try (go_bits;go_simp));first|done|rfl|(first|fail)));clear hK K;simp only[Act.put,A4q,A4r,A4s]))
   refine R8 ?_
   intro pB wq hcq hfq hnq
   obtain⟨gq,rfl⟩:=grow_of hcq
   clear hcq
   refine A2Z (elem:=5) rfl rfl G8 G8 rfl rfl D1 (A4b (n:=r) (L:=C0) D1 (by rw[HC0.out];exact r2) r2) ?_ ?_
   ·rw[I2,A4p,zs_len,HHD.out,A4u,A4u,HC0.out];omega
   ·rw[HO1.out]
    go_wp2_with fail
    refine I5 6 G8 G8 ?_
    dsimp only[List.take,List.drop]
    repeat (first|(refine O9 (fun _=>rfl) ?_;simp only[Act.put,A4q,A4r,A4s])|(refine N8 rfl (fun _=>rfl) _ F5 ?_;simp only[Act.put,A4q,A4r,A4s])|(refine M9 rfl (fun _=>rfl) (fun K hK=>?_);apply Exists.intro;apply Exists.intro;apply Exists.intro;apply Exists.intro;refine⟨fun pB w' hw' hF=>?_,hK _ _ ?_⟩;(focus (have zw:=hw';obtain⟨zg,rfl⟩:=grow_of hw';(first|(have yd:=facts_of (hF.at (List.Mem.head _) G3);obtain⟨yb0,yc0,yf0,yl0⟩:=yd)|skip);(first|(have yd:=facts_of (hF.at (List.Mem.tail _ (List.Mem.head _)) G3);obtain⟨yb1,yc1,yf1,yl1⟩:=yd)|skip);go_simp;(first|done|rfl|exact⟨⟨rfl,rfl⟩,rfl⟩|(refine⟨?_,?_⟩<;>rfl)|(refine⟨⟨?_,?_⟩,?_⟩<;>rfl)|(refine⟨⟨?_,?_⟩,⟨?_,?_⟩⟩<;>rfl))));clear hK K;simp only[Act.put,A4q,A4r,A4s])|(refine L5 (fun _=>rfl) (fun K hK=>?_);apply Exists.intro;refine⟨fun pB w' hw' hF=>?_,hK _ _ ?_⟩;(focus (have zw:=hw';generalize hCC:Below w'.heap.size w'=CC;have HCC:=hid hCC;clear hCC;obtain⟨zg,rfl⟩:=grow_of hw';(first|(have yd:=facts_of (hF.at (List.Mem.head _) G3);obtain⟨yb0,yc0,yf0,yl0⟩:=yd)|skip);(first|(have yd:=facts_of (hF.at (List.Mem.tail _ (List.Mem.head _)) G3);obtain⟨yb1,yc1,yf1,yl1⟩:=yd)|skip);go_simp;(try (go_bits;go_simp));first|done|rfl|(first|fail)));clear hK K;simp only[Act.put,A4q,A4r,A4s]))
    refine R8 ?_
    intro pB wq hcq hfq hnq
    obtain⟨gq,rfl⟩:=grow_of hcq
    clear hcq
    refine A2Z (elem:=5) rfl rfl G8 G8 rfl rfl D1 ((HT2.out.below A3).from (pl*16+16) b6) ?_ ?_
    ·rw[q0,A4D];exact A4T (List.length_take_le _ _) r2
    ·rw[hR.out]
     go_wp2_with fail
     (with_reducible refine(HF1.out _ ?_).mono ?_)
     ·exact A3
     ·rintro e wz ⟨rfl,hb⟩
      obtain⟨g9,rfl⟩:=grow_of hb
      clear hb
      go_wp2_with fail
      refine I5 4 G8 G8 ?_
      dsimp only[List.take,List.drop]
      repeat (first|(refine O9 (fun _=>rfl) ?_;simp only[Act.put,A4q,A4r,A4s])|(refine N8 rfl (fun _=>rfl) _ F5 ?_;simp only[Act.put,A4q,A4r,A4s])|(refine M9 rfl (fun _=>rfl) (fun K hK=>?_);apply Exists.intro;apply Exists.intro;apply Exists.intro;apply Exists.intro;refine⟨fun pB w' hw' hF=>?_,hK _ _ ?_⟩;(focus (have zw:=hw';obtain⟨zg,rfl⟩:=grow_of hw';(first|(have yd:=facts_of (hF.at (List.Mem.head _) G3);obtain⟨yb0,yc0,yf0,yl0⟩:=yd)|skip);(first|(have yd:=facts_of (hF.at (List.Mem.tail _ (List.Mem.head _)) G3);obtain⟨yb1,yc1,yf1,yl1⟩:=yd)|skip);go_simp;(first|done|rfl|exact⟨⟨rfl,rfl⟩,rfl⟩|(refine⟨?_,?_⟩<;>rfl)|(refine⟨⟨?_,?_⟩,?_⟩<;>rfl)|(refine⟨⟨?_,?_⟩,⟨?_,?_⟩⟩<;>rfl))));clear hK K;simp only[Act.put,A4q,A4r,A4s])|(refine L5 (fun _=>rfl) (fun K hK=>?_);apply Exists.intro;refine⟨fun pB w' hw' hF=>?_,hK _ _ ?_⟩;(focus (have zw:=hw';generalize hCC:Below w'.heap.size w'=CC;have HCC:=hid hCC;clear hCC;obtain⟨zg,rfl⟩:=grow_of hw';(first|(have yd:=facts_of (hF.at (List.Mem.head _) G3);obtain⟨yb0,yc0,yf0,yl0⟩:=yd)|skip);(first|(have yd:=facts_of (hF.at (List.Mem.tail _ (List.Mem.head _)) G3);obtain⟨yb1,yc1,yf1,yl1⟩:=yd)|skip);go_simp;(try (go_bits;go_simp));first|done|rfl|(first|fail)));clear hK K;simp only[Act.put,A4q,A4r,A4s]))
      refine R8 ?_
      intro pB wq hcq hfq hnq
      obtain⟨gq,rfl⟩:=grow_of hcq
      clear hcq
      refine A2Z (elem:=5) rfl rfl G8 G8 rfl rfl D1 (J9 D1 HC2.out) ?_ ?_
      ·rw[I2,A4p,A4p,zs_len,HHD.out,A4u,A4u,HC2.out,HC0.out];omega
      ·rw[HO2.out]
       go_wp2
       rw[Exit.noGoto_ret]
       go_wp2
       have hSt:=HSx.out
       refine postM (.inl rfl) rfl (show blk _ D=_ by go_simp) ?_
       go_ret
       refine⟨_,rfl,by omega,?_,?_⟩
       ·rw[blk_putObj _ _ _ _ (fun e=>dg e.symm),HFIN.out]
        go_simp
       ·refine A4d ?_ hDw _
        exact A3
end
end Go.Proofs.YtggbbafanhceaaaGreatRR
