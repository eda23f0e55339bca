/-
  Laws that the claims of this seat use, of several texts in one. No condition of their own.
-/
import Derived.Test.YtggbbafanhceaaaGreatRRL24
set_option maxRecDepth 100000
set_option maxHeartbeats 8000000
set_option linter.all false
namespace Go.Proofs.YtggbbafanhceaaaGreatRR
section
open Go.ChangeShapes Go.WideShapes Go.ChangeAt Go.RowKit
attribute [local irreducible] xorL sboxL subB sealV openV
attribute [local go_sem] Oper.semAt_some
theorem In.far{L0 L:List (Nat × Array Value × TypeId)}{w W:World}(h:In L0 w L W){b:Nat}{cs:Array Value}{t:TypeId}{fr:Nat × Nat}(hb:blk w b=some (.cells cs t fr))(hn:b∉L0.map (·.1)) :
  blk W b=some (.cells cs t fr)∧(∀o,W.cell? ⟨b,o,none⟩=cs[o]?)∧b<W.heap.size:=h.rd.farCells hb (by rw[K5];exact hn)
theorem In.blk{L0 L:List (Nat × Array Value × TypeId)}{w W:World}(h:In L0 w L W)(i:Nat){b:Nat}{cs:Array Value}{t:TypeId}(hi:L[i]?=some (b,cs,t)):Go.Proofs.YtggbbafanhceaaaGreatRR.blk W b=some (.cells cs t (0,0)):=(h.at i hi).1
theorem In.lt{L0 L:List (Nat × Array Value × TypeId)}{w W:World}(h:In L0 w L W)(i:Nat){b:Nat}{cs:Array Value}{t:TypeId}(hi:L[i]?=some (b,cs,t)):b<W.heap.size:=(h.at i hi).2.2.2.1
theorem In.ne{L0 L:List (Nat × Array Value × TypeId)}{w W:World}(h:In L0 w L W)(i j:Nat){b c:Nat}{cs cs':Array Value}{t t':TypeId}(hi:L[i]?=some (b,cs,t))(hj:L[j]?=some (c,cs',t'))(hij:i≠j):¬b=c:=fun e=>by
 have h1:(L.map (·.1))[i]?=some b:=by simp[hi]
 have h2:(L.map (·.1))[j]?=some c:=by simp[hj]
 subst e
 obtain⟨l1,e1⟩:=A4v.1 h1
 obtain⟨l2,e2⟩:=A4v.1 h2
 have hnd:(L.map (·.1)).Nodup:=by have:=h.rd.holds.2;rwa [K5] at this
 exact hij ((List.getElem_inj hnd).1 (e1.trans e2.symm))
theorem In.grow{L0 L:List (Nat × Array Value × TypeId)}{w W:World}(h:In L0 w L W)(g:Laid):In L0 w L (Go.Proofs.YtggbbafanhceaaaGreatRR.grow W g):=h.call (A0N W g)
theorem In.skip{L0 L:List (Nat × Array Value × TypeId)}{w W:World}(h:In L0 w L W)(o:Obj):In L0 w L (W.alloc o):=h.call ((Below.refl _ _).alloc (A4C _) _)
theorem In.put{L0 L:List (Nat × Array Value × TypeId)}{w W:World}(h:In L0 w L W)(i:Nat){b:Nat}{cs:Array Value}{t:TypeId}(hi:L[i]?=some (b,cs,t))(cs':Array Value):In L0 w (L.set i (b,cs',t)) (putRow W b cs' t):=by
 rw[X0 (h.blk i hi)]
 exact h.setRow i hi cs'
theorem In.open2{L0:List (Nat × Array Value × TypeId)}{w W:World}{b c:Nat}{cs cs':Array Value}{t t':TypeId}(h:In L0 w [(b,cs,t),(c,cs',t')] W) :
  ∃x,W=putRow (putRow x c cs' t') b cs t∧In L0 w [(b,cs,t),(c,cs',t')] x∧b<x.heap.size∧c<x.heap.size∧¬b=c∧¬c=b :=
 ⟨W,by rw[←Y7 (h.blk 1 rfl),←Y7 (h.blk 0 rfl)],h,h.lt 0 rfl,h.lt 1 rfl,h.ne 0 1 rfl rfl H5,h.ne 1 0 rfl rfl H5⟩
theorem In.open3{L0:List (Nat × Array Value × TypeId)}{w W:World}{b c d:Nat}{cs cs' cs2:Array Value}{t t' t2:TypeId}(h:In L0 w [(b,cs,t),(c,cs',t'),(d,cs2,t2)] W) :
  ∃x,W=putRow (putRow (putRow x d cs2 t2) c cs' t') b cs t∧In L0 w [(b,cs,t),(c,cs',t'),(d,cs2,t2)] x∧In [(b,cs,t),(c,cs',t'),(d,cs2,t2)] W [(b,cs,t),(c,cs',t'),(d,cs2,t2)] x∧b<x.heap.size∧c<x.heap.size∧d<x.heap.size∧¬b=c∧¬c=b∧¬b=d∧¬d=b∧¬c=d∧¬d=c :=
 ⟨W,by rw[←Y7 (h.blk 2 rfl),←Y7 (h.blk 1 rfl),←Y7 (h.blk 0 rfl)],h,h.round,h.lt 0 rfl,h.lt 1 rfl,h.lt 2 rfl,h.ne 0 1 rfl rfl H5,h.ne 1 0 rfl rfl H5,h.ne 0 2 rfl rfl H5,h.ne 2 0 rfl rfl H5,h.ne 1 2 rfl rfl H5,h.ne 2 1 rfl rfl H5⟩
theorem In.put3{L0:List (Nat × Array Value × TypeId)}{w x:World}{b c e:Nat}{cs cs' cs2:Array Value}{t t' t2:TypeId}(h:In L0 w [(b,cs,t),(c,cs',t'),(e,cs2,t2)] x)(d d' d2:Array Value):In L0 w [(b,d,t),(c,d',t'),(e,d2,t2)] (putRow (putRow (putRow x e d2 t2) c d' t') b d t):=((h.put 2 rfl d2).put 1 rfl d').put 0 rfl d
theorem St.swap01{w0 w:World}{x y:Nat × Array Value × TypeId}(h:St w0 w [x,y]):St w0 w [y,x] :=
 ⟨h.1,fun z hz=>h.2.1 z (by simp at hz ⊢;exact hz.symm),by have:=h.2.2;simp at this ⊢;exact fun e=>this e.symm⟩
theorem A3w(k:Nat)(h:k≤1000000):wrap64 (k:Int)=(k:Int):=by unfold wrap64;omega
theorem zs_drop(n k:Nat):(zs n).drop k=zs (n - k):=by unfold zs;exact A5A
theorem zs_nil:zs 0=[]:=by unfold zs;rfl
theorem zs32 : #[Value.int .u8 0,Value.int .u8 0,Value.int .u8 0,Value.int .u8 0,Value.int .u8 0,Value.int .u8 0,Value.int .u8 0,Value.int .u8 0,Value.int .u8 0,Value.int .u8 0,Value.int .u8 0,Value.int .u8 0,Value.int .u8 0,Value.int .u8 0,Value.int .u8 0,Value.int .u8 0,Value.int .u8 0,Value.int .u8 0,Value.int .u8 0,Value.int .u8 0,Value.int .u8 0,Value.int .u8 0,Value.int .u8 0,Value.int .u8 0,Value.int .u8 0,Value.int .u8 0,Value.int .u8 0,Value.int .u8 0,Value.int .u8 0,Value.int .u8 0,Value.int .u8 0,Value.int .u8 0]=bvs (zs 32):=by unfold zs bvs;rfl
theorem text_cells{w:World}{tb o n c:Nat}{l:List UInt8}(h:BytesAt w (.slice (some ⟨tb,o,none⟩) n c) l)(hn:0<l.length) :
  ∃cs t fr,blk w tb=some (.cells cs t fr)∧∀k,k*16+16≤l.length→o+k*16+16≤csz cs∧cut cs (o+k*16) 16=bvs (blockAt l k):=by
 obtain⟨p',c',hv,h1,h0,h3⟩:=h
 simp only[Value.slice.injEq] at hv
 obtain⟨rfl,rfl,rfl⟩:=hv
 obtain⟨b',o',cs,t,e,hp,hb,hx⟩:=h3 (by intro e;subst e;simp at hn)
 simp only[Option.some.injEq,Addr.mk.injEq,and_true] at hp
 obtain⟨rfl,rfl⟩:=hp
 refine⟨cs,t,e,hb,fun k hk=>?_⟩
 have:=cut_of_cells (cs:=cs) (o:=o+k*16) (n:=16) (l:=blockAt l k) (R9 H6) H6 (fun i x hi=>by
  unfold blockAt at hi
  rw[A5h] at hi
  split at hi
  ·rw[A5G] at hi
   rw[A6c,show k*16+i=16*k+i by omega]
   exact hx _ _ hi
  ·cases hi)
 exact this
theorem headL_succ(f:List UInt8→List UInt8→List UInt8)(T:Nat→List UInt8)(l:List UInt8)(k:Nat):headL f T l (k+1)=headL f T l k++f (T k) (blockAt l k):=rfl
theorem run_step{H c:List UInt8}{n k:Nat}(hH:H.length=16*k)(hc:c.length=16)(hn:16*k+16≤n) :
  ovw (bvs (H++zs (n - 16*k))) (k*16) (c.take (n - k*16))=bvs (H++c++zs (n - 16*(k+1))):=by
 rw[A4B H6,O4,hc]
 congr 1
 rw[A4Z H6,A4B H6,A5O,A4F H6,A4x,hH,A4E]
 congr 2
 rw[zs_drop]
 congr 1
 omega
theorem turnL_whole{F:List UInt8→List UInt8→List UInt8}{T:Nat→List UInt8}{back:Bool}{l:List UInt8}{q:Nat}(h:l.length=16*q+0):turnL F T back l=headL F T l q:=by
 unfold turnL
 rw[if_pos H6,show l.length / 16=q by omega]
theorem run_whole(F:List UInt8→List UInt8→List UInt8)(hF:∀t x,t.length=16→x.length=16→(F t x).length=16)(first l:List UInt8)(hfirst:first.length=16)(back:Bool)(rv fv tv:Value)(wb:Nat)(w:World)
  (hwb:blk w wb=some (.cells (wkC rv fv first) 188 (0,0)))(ht:BytesAt w tv l)(hm:l.length % 16=0)(h1:16≤l.length)(h2:l.length≤65536)
  (HB:∀w',Below w.heap.size w w'→∀t x,t.length=16→x.length=16→Calls Tryz.prog 109 #[.pointer (some ⟨wb,0,none⟩),.agg (bvs t),.agg (bvs x)] w' fun e w2=>e=.returned (.agg (bvs (F t x)))∧Below w'.heap.size w' w2) :
  Calls Tryz.prog 63 #[.pointer (some ⟨wb,0,none⟩),tv,.bool back] w fun e w'=>∃g,e=.returned (.slice (some ⟨g,0,none⟩) l.length l.length)∧w.heap.size≤g∧blk w' g=some (.cells (bvs (turnL F (dblIt first) back l)) 5 (0,0))∧Below w.heap.size w w':=by
 obtain⟨tp,tc,rfl,htc⟩:=ht.slice
 obtain⟨tb,tO,rfl⟩:=ht.ptr H6
 have hwl:=J5 hwb
 have c2:cut (wkC rv fv first) 2 16=bvs first:=wkC_cut _ _ _ hfirst
 have c3:csz (wkC rv fv first)=18:=by rw[wkC_size,hfirst]
 have s1:csz (bvs (zs 16))=16:=by rw[I2,zs_len]
 have s2:csz (bvs first)=16:=by rw[I2,hfirst]
 have z:=zs16;have e0:=zs_ne;have z3:=zs32
 have HBH:=hid HB;have HT:=hid ht;have HFH:=hid hF;have HFI:=hid hfirst
 obtain⟨n,hn⟩:∃n,n=l.length:=⟨_,rfl⟩
 have HN:=hid hn
 have hcs:=text_cells ht (by rw[←hn];omega)
 rw[←hn] at h1 h2 htc ⊢
 obtain⟨cs,tt,fr,htb,hcut⟩:=hcs
 have HCUT:=hid (fun k (hk:k*16+16≤n)=>hcut k (by rw[←hn];exact hk))
 obtain⟨q,r,hnq,hr16⟩:∃q r,n=16*q+r∧r<16:=⟨n / 16,n % 16,by omega,by omega⟩
 have p0:(n:Int) / 16=(q:Int):=by omega
 have p2:(n:Int) % 16=(r:Int):=by omega
 have p1:(n:Int)≤281474976710656:=by omega
 have HNQ:=hid hnq
 have HDL:=hid (fun k=>A0d hfirst k)
 have HDS:=hid (fun k=>show csz (bvs (dblIt first k))=16 by rw[I2,A0d hfirst])
 clear HB hF hfirst ht hn hnq hcut
 refine S6 Tryz.func63 rfl ?_
 simp only[Tryz.ntmps63,A4V,A4G,A4W,Nat.reduceAdd,Nat.reduceSub,A5r,A5s,A5E,A5u,A4x,A4K]
 have hr:r=0:=by have:=HN.out;have:=HNQ.out;omega
 obtain rfl:=hr
 go_wp2_with fail
 go_step3
 go_wp2_with fail
 go_step3
 go_wp2_with fail
 (with_reducible refine(tweaks_any first HFI.out _).mono ?_)
 rintro e w1 ⟨rfl,rfl⟩
 have hS:=show St w (((((((((w.alloc (Obj.cells #[Value.pointer (some ⟨wb,0,none⟩)] 132)).alloc (Obj.cells #[Value.slice (some ⟨tb,tO,none⟩) n tc] 63)).alloc (Obj.cells (bvs (zs n)) 5)).alloc
          (Obj.cells #[Value.slice (some ⟨w.heap.size+1+1,0,none⟩) n n] 63)).alloc (Obj.cells #[Value.int .i64 q] 3)).alloc (Obj.cells #[Value.int .i64 ((0:Nat):Int)] 3)).alloc (Obj.cells #[Value.int .i64 q] 3)).alloc (Obj.cells (bvs (zs 32)) 193)).alloc (Obj.cells (bvs first) 181))
  [(w.heap.size+1+1+1+1+1+1+1+1,bvs first,181),(w.heap.size+1+1+1+1+1+1+1,bvs (zs 32),193),(w.heap.size+1+1+1+1+1+1,#[Value.int .i64 q],3),(w.heap.size+1+1+1+1+1,#[Value.int .i64 ((0:Nat):Int)],3),(w.heap.size+1+1+1+1,#[Value.int .i64 q],3),
   (w.heap.size+1+1+1,#[Value.slice (some ⟨w.heap.size+1+1,0,none⟩) n n],63),(w.heap.size+1+1,bvs (zs n),5),(w.heap.size+1,#[Value.slice (some ⟨tb,tO,none⟩) n tc],63),(w.heap.size,#[Value.pointer (some ⟨wb,0,none⟩)],132)] from(St.alloc' (St.alloc' (St.alloc' (St.alloc' (St.alloc' (St.alloc' (St.alloc' (St.alloc' (St.alloc' (St.start w) F7) F7) F7) F7) F7) F7) F7) F7) F7)
 go_wp2_with fail
 have hit:=A4k first HFI.out _ _ (hS.blk 0 rfl)
 have hSL:St w _ [(w.heap.size+1+1,bvs (zs n),5),(w.heap.size+1+1+1+1+1+1+1,bvs (zs 32),193)]:=St.swap01 ((((((((hS.erase 0).erase 1).erase 1).erase 1).erase 1).erase 2).erase 2))
 refine A0G (els:=fun k=>#[.int .i64 (wrap64 k),.agg (bvs (dblIt first k))]) (N:=none) (R:=[w.heap.size+1+1+1+1+1+1+1+1]) (gf:=141) (lb:=#[.pointer (some ⟨w.heap.size+1+1+1+1+1+1+1+1,0,none⟩)]) H8 F2 hit (Below.refl _ _) (fun _=>rfl)
  (fun k L=>k≤q∧L=[(w.heap.size+1+1,bvs (headL F (dblIt first) l k++zs (n - 16*k)),5),(w.heap.size+1+1+1+1+1+1+1,bvs (zs 32),193)])
  (fun c L=>c=.exit 0∧∃x,L=[x,(w.heap.size+1+1,bvs (headL F (dblIt first) l q++zs (n - 16*q)),5),(w.heap.size+1+1+1+1+1+1+1,bvs (zs 32),193)]) (q+1) (fun _ k L h=>by omega)
  [(w.heap.size+1+1,bvs (zs n),5),(w.heap.size+1+1+1+1+1+1+1,bvs (zs 32),193)] ⟨Nat.zero_le _,by simp[headL]⟩ hSL.holds ?R (fun k=>bvs (dblIt first k)) 181 ?act1 ?assign ?body ?done ?stop
 case R =>
  intro b hb
  obtain rfl:=A5w.1 hb
  exact⟨hS.lt 0 rfl,by simp;omega⟩
 case assign =>
  intro l0 k L W1 hI hIn K hK
  have hl:=HDS.out k
  gi_wp2
  have h5:=hIn.round.alloc (bvs (dblIt first k)) 181
  generalize W1.heap.size=b at *
  exact hK _ _ h5
 case body =>
  rintro l0 k L b W ⟨hk,rfl⟩ hIn _
  obtain⟨x,rfl,hIn,hB,l1,l2,l3,n1,n2,n3,n4,n5,n6⟩:=hIn.open3
  have hSx:=hSL.range hIn
  have ub:w.heap.size+9≤b:=by
   rcases hIn.rd.fresh (b,_) (A4t ..) with h|h
   ·rw[K5] at h;simp at h;omega
   ·simpa using h
  have u0:¬w.heap.size=b:=by omega
  have u1:¬w.heap.size+1=b:=by omega
  have u3:¬w.heap.size+1+1+1=b:=by omega
  have u4:¬w.heap.size+1+1+1+1=b:=by omega
  have u5:¬w.heap.size+1+1+1+1+1=b:=by omega
  have u6:¬w.heap.size+1+1+1+1+1+1=b:=by omega
  have u7:¬tb=b:=by have:=J5 htb;omega
  have v1:¬tb=w.heap.size+1+1:=by have:=J5 htb;omega
  have v2:¬tb=w.heap.size+1+1+1+1+1+1+1:=by have:=J5 htb;omega
  obtain⟨f0,g0,m0⟩:=hIn.far (hS.blk 8 rfl) G5
  obtain⟨f1,g1,m1⟩:=hIn.far (hS.blk 7 rfl) G5
  obtain⟨f3,g3,m3⟩:=hIn.far (hS.blk 5 rfl) G5
  obtain⟨f4,g4,m4⟩:=hIn.far (hS.blk 4 rfl) G5
  obtain⟨f5,g5,m5⟩:=hIn.far (hS.blk 3 rfl) G5
  obtain⟨f6,g6,m6⟩:=hIn.far (hS.blk 2 rfl) G5
  obtain⟨f7,_,t0,m7,_⟩:=hSx.far htb
  have HW:=hid (A3w k F4)
  have hl:=HDS.out k
  have HSx:=hid hSx;have HB:=hid hB
  clear hSx hB hIn hit hSL hS
  have hHead:=Y5 (f:=F) (T:=dblIt first) (fun j x hx=>HFH.out _ _ (HDL.out j) hx) (l:=l) k D5
  by_cases hkq:k<q
  ·have hfit:=(HCUT.out k F4)
   obtain⟨k1,k2⟩:=hfit
   have HBL:=R9 (l:=l) (j:=k) D5
   have sB:csz (bvs (blockAt l k))=16:=by rw[I2,HBL]
   have hFL:=HFH.out _ _ (HDL.out k) HBL
   have sF:csz (bvs (F (dblIt first k) (blockAt l k)))=16:=by rw[I2,hFL]
   have HFL:=hid hFL
   have HBL:=hid HBL
   have HST:=hid (run_step hHead hFL (n:=n) (k:=k) F4)
   rw[←headL_succ] at HST
   have HHD:=hid hHead
   clear hFL hHead
   have a1:(0:Int)≤(k:Int)*16:=by omega
   have a2:(k:Int)*16≤(n:Int):=by have:=HNQ.out;omega
   have a4:¬tc=k*16:=by have:=HNQ.out;omega
   have a5:16≤n - k*16:=by have:=HNQ.out;omega
   have a6:¬n=k*16:=by omega
   have a7:k*16≤n:=by omega
   have a3:((k:Int)*16).toNat=k*16:=by omega
   rw[HW.out]
   gi_wp2_with fail
   refine L9 9 G8 G8 G8 ?_
   dsimp only[List.take,List.drop]
   repeat (first|(refine O9 (fun _=>rfl) ?_;simp only[Act.put,A4q,A4r,A4s])|(refine N8 rfl (fun _=>rfl) _ F5 ?_;simp only[Act.put,A4q,A4r,A4s])|(refine M9 rfl (fun _=>rfl) (fun K hK=>?_);apply Exists.intro;apply Exists.intro;apply Exists.intro;apply Exists.intro;refine⟨fun pB w' hw' hF=>?_,hK _ _ ?_⟩;(focus (have zw:=hw';obtain⟨zg,rfl⟩:=grow_of hw';(first|(have yd:=facts_of (hF.at (List.Mem.head _) G3);obtain⟨yb0,yc0,yf0,yl0⟩:=yd)|skip);(first|(have yd:=facts_of (hF.at (List.Mem.tail _ (List.Mem.head _)) G3);obtain⟨yb1,yc1,yf1,yl1⟩:=yd)|skip);go_simp;(first|done|rfl|exact⟨⟨rfl,rfl⟩,rfl⟩|(refine⟨?_,?_⟩<;>rfl)|(refine⟨⟨?_,?_⟩,?_⟩<;>rfl)|(refine⟨⟨?_,?_⟩,⟨?_,?_⟩⟩<;>rfl))));clear hK K;simp only[Act.put,A4q,A4r,A4s])|(refine L5 (fun _=>rfl) (fun K hK=>?_);apply Exists.intro;refine⟨fun pB w' hw' hF=>?_,hK _ _ ?_⟩;(focus (have zw:=hw';generalize hCC:Below w'.heap.size w'=CC;have HCC:=hid hCC;clear hCC;obtain⟨zg,rfl⟩:=grow_of hw';(first|(have yd:=facts_of (hF.at (List.Mem.head _) G3);obtain⟨yb0,yc0,yf0,yl0⟩:=yd)|skip);(first|(have yd:=facts_of (hF.at (List.Mem.tail _ (List.Mem.head _)) G3);obtain⟨yb1,yc1,yf1,yl1⟩:=yd)|skip);go_simp;(try (go_bits;go_simp));first|done|rfl|(first|((with_reducible refine(HBH.out _ ?_ _ _ ?_ ?_).mono fun e w2 h2=>⟨h2.1,by rw[←HCC.out];exact h2.2⟩);((focus exact A1R (HSx.out.put3 _ _ _).below _);(focus exact HDL.out k);(focus exact HBL))))));clear hK K;simp only[Act.put,A4q,A4r,A4s]))
   refine R8 ?_
   intro pB wq hcq hfq hnq
   obtain⟨gq,rfl⟩:=grow_of hcq
   clear hcq
   have hsp:=hfq _ (A4t ..)
   simp only at hsp
   dsimp only
   obtain⟨hsp1,hsp2⟩:=hsp
   generalize hpb:pB _=nb at *
   obtain⟨ga,gb,hgs,rfl⟩:=grow_split hsp1 hsp2
   rw[hgs]
   clear hgs hsp1 hsp2 hpb hfq hnq
   try simp only[A2A,A1B,World.size_alloc]
   gi_wp2_with fail
   refine L9 4 G8 G8 G8 ?_
   dsimp only[List.take,List.drop]
   repeat (first|(refine O9 (fun _=>rfl) ?_;simp only[Act.put,A4q,A4r,A4s])|(refine N8 rfl (fun _=>rfl) _ F5 ?_;simp only[Act.put,A4q,A4r,A4s])|(refine M9 rfl (fun _=>rfl) (fun K hK=>?_);apply Exists.intro;apply Exists.intro;apply Exists.intro;apply Exists.intro;refine⟨fun pB w' hw' hF=>?_,hK _ _ ?_⟩;(focus (have zw:=hw';obtain⟨zg,rfl⟩:=grow_of hw';(first|(have yd:=facts_of (hF.at (List.Mem.head _) G3);obtain⟨yb0,yc0,yf0,yl0⟩:=yd)|skip);(first|(have yd:=facts_of (hF.at (List.Mem.tail _ (List.Mem.head _)) G3);obtain⟨yb1,yc1,yf1,yl1⟩:=yd)|skip);go_simp;(first|done|rfl|exact⟨⟨rfl,rfl⟩,rfl⟩|(refine⟨?_,?_⟩<;>rfl)|(refine⟨⟨?_,?_⟩,?_⟩<;>rfl)|(refine⟨⟨?_,?_⟩,⟨?_,?_⟩⟩<;>rfl))));clear hK K;simp only[Act.put,A4q,A4r,A4s])|(refine L5 (fun _=>rfl) (fun K hK=>?_);apply Exists.intro;refine⟨fun pB w' hw' hF=>?_,hK _ _ ?_⟩;(focus (have zw:=hw';generalize hCC:Below w'.heap.size w'=CC;have HCC:=hid hCC;clear hCC;obtain⟨zg,rfl⟩:=grow_of hw';(first|(have yd:=facts_of (hF.at (List.Mem.head _) G3);obtain⟨yb0,yc0,yf0,yl0⟩:=yd)|skip);(first|(have yd:=facts_of (hF.at (List.Mem.tail _ (List.Mem.head _)) G3);obtain⟨yb1,yc1,yf1,yl1⟩:=yd)|skip);go_simp;(try (go_bits;go_simp));first|done|rfl|(first|fail)));clear hK K;simp only[Act.put,A4q,A4r,A4s]))
   refine R8 ?_
   intro pB wq hcq hfq hnq
   obtain⟨gq,rfl⟩:=grow_of hcq
   clear hcq
   refine wpIn_copy (elem:=5) rfl rfl G8 G8 rfl rfl D1 (J9 D1 HFL.out) ?_ ?_
   ·rw[I2,A4p,zs_len,HHD.out,A4u,HFL.out];omega
   ·rw[HST.out]
    have hB:=HB.out
    gi_wp2
    exact⟨_,In.tail ((((((HB.out.put3 _ _ _).grow ga).skip _).grow gb).grow gq).setRow 1 rfl _),by omega,rfl⟩
  ·obtain rfl:k=q:=by omega
   clear hHead
   have hkk:¬(k:Int)<(k:Int):=by omega
   rw[HW.out]
   gi_wp2
   exact⟨_,HB.out.put3 _ _ _,rfl,_,_,_,rfl⟩
 case done=>intro D n L W1 h;cases h
 case stop =>
  rintro D c L W1 ⟨rfl,x0,rfl⟩ hIn hD hD0
  have hIn2:=hIn.tail
  have hSx:=hSL.range hIn2
  obtain⟨f3,g3,m3⟩:=hIn2.far (hS.blk 5 rfl) G5
  obtain⟨f5,g5,m5⟩:=hIn2.far (hS.blk 3 rfl) G5
  have hT:=hid (turnL_whole (F:=F) (T:=dblIt first) (back:=back) (l:=l) (q:=q) (by rw[←HN.out];exact HNQ.out))
  have hz0:n - 16*q=0:=by have:=HNQ.out;omega
  have h5:=hSx.shut hD (fun _ _ _ h=>by cases h) (A4T (hSL.below.size) hD0) (.deferred none)
  rw[hz0] at h5
  clear hIn hIn2 hSx hit hSL hS hz0
  go_wp2
  rw[Exit.noGoto_ret]
  go_wp2
  refine postM (.inl rfl) rfl hD ?_
  go_ret
  exact⟨_,rfl,by omega,by rw[hT.out];simpa[zs_nil] using h5.blk 0 rfl,h5.below⟩
end
end Go.Proofs.YtggbbafanhceaaaGreatRR
