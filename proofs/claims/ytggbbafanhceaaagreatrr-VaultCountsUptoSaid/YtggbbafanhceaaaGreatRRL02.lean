/-
  Laws that the claims of this seat use, of several texts in one. No condition of their own.
-/
import Derived.Test.YtggbbafanhceaaaGreatRRL01
set_option maxRecDepth 100000
set_option maxHeartbeats 8000000
set_option linter.all false
namespace Go.Proofs.YtggbbafanhceaaaGreatRR
section
open Go.RowKit
section
@[go_sem] theorem wide_fn(f:FuncId):Fence.wide.fn f=True:=rfl
@[go_sem] theorem wide_fn_r(l:Nat)(f:FuncId):(Fence.wide.inRound l).fn f=True:=rfl
@[go_sem] theorem wide_depth:Fence.wide.depth=none:=rfl
@[go_sem] theorem wide_depth_r(l:Nat):(Fence.wide.inRound l).depth=none:=rfl
def Holds(W:World)(L:List (Nat × Obj)):Prop:=(∀x∈L,W.heap[x.1]?=some x.2)∧(L.map (·.1)).Nodup
structure Kept(B:List Nat)(W W':World):Prop where
 os:W'.os=W.os
 tape:W'.tape=W.tape
 output:W'.output=W.output
 size:W.heap.size≤W'.heap.size
 block:∀k,k<W.heap.size→k∉B→W'.heap[k]?=W.heap[k]?
theorem Kept.refl(B:List Nat)(W:World):Kept B W W:=⟨rfl,rfl,rfl,A4C _,fun _ _ _=>rfl⟩
theorem Kept.of_below{B:List Nat}{W W':World}(h:Below W.heap.size W W'):Kept B W W':=⟨h.os,h.tape,h.output,h.size,fun k hk _=>h.block k hk⟩
theorem Kept.trans{B C:List Nat}{W W1 W2:World}(h:Kept B W W1)(k:Kept C W1 W2)(hc:∀b∈C,b∈B∨W.heap.size≤b):Kept B W W2 :=
 ⟨k.os.trans h.os,k.tape.trans h.tape,k.output.trans h.output,A4T h.size k.size,fun b hb hn=>by
  have h1:=h.size
  refine(k.block b H6 (fun hm=>?_)).trans (h.block b hb hn)
  rcases hc b hm with h|h
  ·exact hn h
  ·omega⟩
theorem Kept.below{B:List Nat}{W W':World}{n:Nat}(h:Kept B W W')(hn:n≤W.heap.size)(hB:∀b∈B,n≤b):Below n W W' :=
 ⟨h.os,h.tape,h.output,h.size,fun k hk=>h.block k H6 (fun hm=>by have:=hB k hm;omega)⟩
structure Rd(L:List (Nat × Obj))(W:World)(L':List (Nat × Obj))(W':World):Prop where
 holds:Holds W' L'
 kept:Kept (L.map (·.1)) W W'
 fresh:∀x∈L',x.1∈L.map (·.1)∨W.heap.size≤x.1
theorem Rd.refl{L:List (Nat × Obj)}{W:World}(h:Holds W L):Rd L W L W:=⟨h,.refl _ _,fun x hx=>.inl (A4I.2 ⟨x,hx,rfl⟩)⟩
theorem Rd.trans{L L1 L2:List (Nat × Obj)}{W W1 W2:World}(h:Rd L W L1 W1)(k:Rd L1 W1 L2 W2):Rd L W L2 W2:=by
 have hs:=h.kept.size
 refine⟨k.holds,h.kept.trans k.kept (fun b hb=>?_),fun x hx=>?_⟩
 ·obtain⟨y,hy,rfl⟩:=A4I.1 hb
  exact h.fresh y hy
 ·rcases k.fresh x hx with hm|hm
  ·obtain⟨y,hy,he⟩:=A4I.1 hm
   rw[←he];exact h.fresh y hy
  ·exact .inr H6
theorem Holds.lt{W:World}{L:List (Nat × Obj)}(h:Holds W L){x:Nat × Obj}(hx:x∈L):x.1<W.heap.size:=(A4H.1 (h.1 x hx)).1
theorem Holds.kept{W W':World}{L:List (Nat × Obj)}{B:List Nat}(h:Holds W L)(k:Kept B W W')(hB:∀x∈L,x.1∉B):Holds W' L :=
 ⟨fun x hx=>(k.block _ (h.lt hx) (hB x hx)).trans (h.1 x hx),h.2⟩
theorem Rd.call{L:List (Nat × Obj)}{W W':World}(h:Holds W L)(hb:Below W.heap.size W W'):Rd L W L W' :=
 ⟨h.kept (B:=[]) (Kept.of_below hb) (fun _ _=>A5b),Kept.of_below hb,fun x hx=>.inl (A4I.2 ⟨x,hx,rfl⟩)⟩
theorem Rd.far{L L':List (Nat × Obj)}{W W':World}(h:Rd L W L' W'){b:Nat}{o:Obj}(hb:W.heap[b]?=some o)(hn:b∉L.map (·.1)):W'.heap[b]?=some o∧b∉L'.map (·.1):=by
 have hlt:=(A4H.1 hb).1
 refine⟨(h.kept.block b hlt hn).trans hb,fun hm=>?_⟩
 obtain⟨x,hx,he⟩:=A4I.1 hm
 rcases h.fresh x hx with h1|h1
 ·exact hn (he ▸ h1)
 ·omega
theorem Rd.farCells{L L':List (Nat × Obj)}{W W':World}(h:Rd L W L' W'){b:Nat}{cs:Array Value}{t:TypeId}{fr:Nat × Nat}(hb:blk W b=some (.cells cs t fr))(hn:b∉L.map (·.1)) :
  blk W' b=some (.cells cs t fr)∧(∀o,W'.cell? ⟨b,o,none⟩=cs[o]?)∧b<W'.heap.size:=by
 have h1:blk W' b=some (.cells cs t fr):=(h.far hb hn).1
 exact⟨h1,fun o=>cell_of_row W' b o cs t _ h1,J5 h1⟩
def IterAt(P:Program)(gf:Nat)(lb:Array Value)(els:Nat→Array Value)(N:Option Nat)(R:List Nat)(W0:World):Prop :=
 ∀(l:Nat)(J:Nat→List (Nat × Obj)→Prop)(Jx:List (Nat × Obj)→Prop)(M:Nat)(W:World)(L0:List (Nat × Obj)),
  Below W0.heap.size W0 W→(∀b∈R,b∉L0.map (·.1))→(N=none→∀k L,J k L→k<M)→J 0 L0→Holds W L0 →
  (∀k L W1,J k L→Rd L0 W L W1→(∀n,N=some n→k<n) →
   YieldAt Fence.wide 0 P l (els k) W1 fun e W2=>∃L2,Rd L W1 L2 W2∧((e=.returned (.bool true)∧J (k+1) L2)∨(e=.returned (.bool false)∧Jx L2))) →
  Calls P gf (#[.func (.yield l) #[] #[]]++lb) W fun e W'=>(∃v,e=.returned v)∧∃L',Rd L0 W L' W'∧((∃n,N=some n∧J n L')∨Jx L')
def objs(L:List (Nat × Array Value × TypeId)):List (Nat × Obj):=L.map fun x=>(x.1,.cells x.2.1 x.2.2)
theorem K5(L:List (Nat × Array Value × TypeId)):(objs L).map (·.1)=L.map (·.1):=by simp[objs,Function.comp]
theorem Holds.cells{W:World}{L:List (Nat × Array Value × TypeId)}(h:Holds W (objs L))(i:Nat){b:Nat}{cs:Array Value}{t:TypeId}(hi:L[i]?=some (b,cs,t)) :
  blk W b=some (.cells cs t (0,0))∧(∀o,W.cell? ⟨b,o,none⟩=cs[o]?)∧(∀o,W.frozen? ⟨b,o,none⟩=false)∧b<W.heap.size∧¬b=W.heap.size:=by
 have h1:blk W b=some (.cells cs t (0,0)):=h.1 (b,.cells cs t) (A4I.2 ⟨_,A5a hi,rfl⟩)
 have h2:=J5 h1
 exact⟨h1,fun o=>cell_of_row W b o cs t _ h1,fun o=>frozen_of_row W b o cs t h1,h2,by omega⟩
structure In(L0:List (Nat × Array Value × TypeId))(W0:World)(L:List (Nat × Array Value × TypeId))(W:World):Prop where
 rd:Rd (objs L0) W0 (objs L) W
theorem In.start{L:List (Nat × Array Value × TypeId)}{W:World}(h:Holds W (objs L)):In L W L W:=⟨.refl h⟩
theorem In.at{L0 L:List (Nat × Array Value × TypeId)}{W0 W:World}(h:In L0 W0 L W)(i:Nat){b:Nat}{cs:Array Value}{t:TypeId}(hi:L[i]?=some (b,cs,t)) :
  blk W b=some (.cells cs t (0,0))∧(∀o,W.cell? ⟨b,o,none⟩=cs[o]?)∧(∀o,W.frozen? ⟨b,o,none⟩=false)∧b<W.heap.size∧¬b=W.heap.size:=h.rd.holds.cells i hi
theorem In.call{L0 L:List (Nat × Array Value × TypeId)}{W0 W W':World}(h:In L0 W0 L W)(hb:Below W.heap.size W W'):In L0 W0 L W':=⟨h.rd.trans (.call h.rd.holds hb)⟩
theorem In.alloc{L0 L:List (Nat × Array Value × TypeId)}{W0 W:World}(h:In L0 W0 L W)(cs:Array Value)(t:TypeId):In L0 W0 ((W.heap.size,cs,t)::L) (W.alloc (.cells cs t)):=by
 refine⟨h.rd.trans ⟨⟨fun x hx=>?_,?_⟩,Kept.of_below ((Below.refl _ _).alloc (A4C _) _),fun x hx=>?_⟩⟩
 ·rcases A4O.1 hx with rfl|hx
  ·exact World.alloc_heap_new _ _
  ·exact(Below.heap_alloc _ _ _ (h.rd.holds.lt hx)).trans (h.rd.holds.1 x hx)
 ·have:=h.rd.holds.2
  rw[K5] at this ⊢
  simp only[A5f,A5o]
  refine⟨fun hm=>?_,this⟩
  obtain⟨x,hx,he⟩:=A4I.1 hm
  have:=h.rd.holds.lt (x:=(x.1,.cells x.2.1 x.2.2)) (A4I.2 ⟨x,hx,rfl⟩)
  simp only at this
  omega
 ·rcases A4O.1 hx with rfl|hx
  ·exact .inr (A4C _)
  ·exact .inl (A4I.2 ⟨x,hx,rfl⟩)
theorem In.setRow{L0 L:List (Nat × Array Value × TypeId)}{W0 W:World}(h:In L0 W0 L W)(i:Nat){b:Nat}{cs:Array Value}{t:TypeId}(hi:L[i]?=some (b,cs,t))(cs':Array Value):In L0 W0 (L.set i (b,cs',t)) (W.setRow b cs'):=by
 have hil:i<L.length:=(A4v.1 hi).1
 have hm:=h.at i hi
 have hk:(L.set i (b,cs',t)).map (·.1)=L.map (·.1):=by
  rw[List.map_set]
  have:b=(L.map (·.1))[i]'(by simpa using hil):=by
   have:=(A4v.1 hi).2
   simp[this]
  simp only[this,List.set_getElem_self]
 have hnd:(L.map (·.1)).Nodup:=by have:=h.rd.holds.2;rwa [K5] at this
 refine⟨h.rd.trans ⟨⟨fun x hx=>?_,?_⟩,⟨rfl,rfl,rfl,by simp,fun k hk2 hn=>setRow_other W b k cs' (fun e=>?_)⟩,fun x hx=>.inl ?_⟩⟩
 ·obtain⟨y,hy,rfl⟩:=A4I.1 hx
  obtain⟨j,hj,rfl⟩:=List.getElem_of_mem hy
  simp only[A5F] at hj
  rw[List.getElem_set]
  split
  ·exact A0B hm.1 _
  ·rename_i hij
   have h2:=h.at j (A4y hj)
   refine(setRow_other W b _ cs' (fun he=>?_)).trans h2.1
   have e1:(L.map (·.1))[i]'(by simpa using hil)=b:=by
    have:=(A4v.1 hi).2
    simp[this]
   have e2:(L.map (·.1))[j]'G1=b:=by simp only[List.getElem_map];exact he
   exact hij ((List.getElem_inj hnd).1 (e1.trans e2.symm))
 ·rw[K5,hk];exact hnd
 ·subst e;exact hn (by rw[K5];exact A4I.2 ⟨_,A5a hi,rfl⟩)
 ·have:x.1∈(objs (L.set i (b,cs',t))).map (·.1):=A4I.2 ⟨x,hx,rfl⟩
  rwa [K5,hk,←K5] at this
theorem In.setCell{L0 L:List (Nat × Array Value × TypeId)}{W0 W:World}(h:In L0 W0 L W)(i:Nat){b:Nat}{cs:Array Value}{t:TypeId}(hi:L[i]?=some (b,cs,t))(o:Nat)(v:Value):In L0 W0 (L.set i (b,cs.setIfInBounds o v,t)) (W.setCell ⟨b,o,none⟩ v):=by
 rw[setCell_eq_setRow W b o cs t (0,0) v (h.at i hi).1]
 exact h.setRow i hi _
theorem In.tail{L0 L:List (Nat × Array Value × TypeId)}{x:Nat × Array Value × TypeId}{W0 W:World}(h:In L0 W0 (x::L) W):In L0 W0 L W:=by
 refine⟨⟨⟨fun y hy=>h.rd.holds.1 y (A4A _ hy),?_⟩,h.rd.kept,fun y hy=>h.rd.fresh y (A4A _ hy)⟩⟩
 have:=h.rd.holds.2
 rw[K5] at this ⊢
 exact(A5o.1 (by simpa using this)).2
def roundEnd(I:List (Nat × Array Value × TypeId)→Prop)(Ix:Code→List (Nat × Array Value × TypeId)→Prop)(L0:List (Nat × Array Value × TypeId))(W0:World):Exit→Act→World→Prop
 | .normal,_,W=>∃L,In L0 W0 L W∧I L
 | .ret,_,W=>∃L,In L0 W0 L W∧Ix .ret L
 | .exit id,_,W=>∃L,In L0 W0 L W∧Ix (.exit id) L
 | .goto t,_,W=>∃L,In L0 W0 L W∧Ix (.goto t) L
 | .panic _,_,_=>False
 | .outgrown,_,_=>False
theorem Rd.frame{E L L2:List (Nat × Obj)}{W W3:World}(h:Rd L W L2 W3)(hE:Holds W (E++L)):Rd (E++L) W (E++L2) W3:=by
 have hd:=hE.2
 rw[A4N,A6p] at hd
 refine⟨⟨fun x hx=>?_,?_⟩,⟨h.kept.os,h.kept.tape,h.kept.output,h.kept.size,fun k hk hn=>h.kept.block k hk (fun hm=>hn (by rw[A4N];exact A4X _ hm))⟩,fun x hx=>?_⟩
 ·rcases A5c.1 hx with hx|hx
  ·have hxE:x∈E++L:=A5R _ hx
   refine(h.kept.block _ (hE.lt hxE) (fun hm=>?_)).trans (hE.1 x hxE)
   exact hd.2.2 _ (A4I.2 ⟨x,hx,rfl⟩) _ hm rfl
  ·exact h.holds.1 x hx
 ·rw[A4N,A6p]
  refine⟨hd.1,h.holds.2,fun a ha b hb he=>?_⟩
  subst he
  obtain⟨x,hx,rfl⟩:=A4I.1 ha
  obtain⟨y,hy,he⟩:=A4I.1 hb
  rcases h.fresh y hy with h1|h1
  ·exact hd.2.2 _ ha _ (he ▸ h1) rfl
  ·have:=hE.lt (A5R L hx)
   omega
 ·rcases A5c.1 hx with hx|hx
  ·exact .inl (A4I.2 ⟨x,A5R _ hx,rfl⟩)
  ·rcases h.fresh x hx with h1|h1
   ·exact .inl (by rw[A4N];exact A4X _ h1)
   ·exact .inr h1
theorem Q6{E0 E:List (Nat × Obj)}{L0 L:List (Nat × Array Value × TypeId)}{w W1 W:World}(hb:Below w.heap.size w W1)(hk:E.map (·.1)=E0.map (·.1))(hE:∀x∈E0,w.heap.size≤x.1)(h:Rd (E0++objs L0) W1 (E++objs L) W):In L0 w L W:=by
 have hnd:=h.holds.2
 rw[A4N,A6p] at hnd
 have hs:=hb.size
 refine⟨⟨⟨fun x hx=>h.holds.1 x (A4X _ hx),hnd.2.1⟩,⟨h.kept.os.trans hb.os,h.kept.tape.trans hb.tape,h.kept.output.trans hb.output,A4T hs h.kept.size,fun k hk2 hn=>?_⟩,fun x hx=>?_⟩⟩
 ·refine(h.kept.block k H6 (fun hm=>?_)).trans (hb.block k hk2)
  rw[A4N,A5c] at hm
  rcases hm with hm|hm
  ·obtain⟨y,hy,rfl⟩:=A4I.1 hm
   have:=hE y hy;omega
  ·exact hn hm
 ·rcases h.fresh x (A4X _ hx) with h1|h1
  ·rw[A4N,A5c] at h1
   rcases h1 with h1|h1
   ·rw[←hk] at h1
    exact(hnd.2.2 _ h1 _ (A4I.2 ⟨x,hx,rfl⟩) rfl).elim
   ·exact .inl h1
  ·exact .inr H6
theorem Rd.put{L0 L:List (Nat × Obj)}{W0 W:World}{l:Nat}{o:Obj}(h:Rd L0 W0 ((l,o)::L) W)(o':Obj):Rd L0 W0 ((l,o')::L) (W.putObj l o'):=by
 have hlt:=h.holds.lt (A4t ..)
 have hnd:=h.holds.2
 simp only[A5f,A5o] at hnd
 refine h.trans ⟨⟨fun x hx=>?_,by simpa using hnd⟩,⟨rfl,rfl,rfl,by simp,fun k hk2 hn=>World.putObj_heap_other (fun e=>hn (by simp[e]))⟩,fun x hx=>.inl ?_⟩
 ·rcases A4O.1 hx with rfl|hx
  ·exact World.putObj_heap_same hlt
  ·exact(World.putObj_heap_other (fun e=>hnd.1 (by rw[←e];exact A4I.2 ⟨x,hx,rfl⟩))).trans (h.holds.1 x (A4A _ hx))
 ·have:x.1∈((l,o')::L).map (·.1):=A4I.2 ⟨x,hx,rfl⟩
  simpa using this
theorem wp_range{P:Program}{g:Operand}{ps:Array Tmp}{assign body:Code}{Q:Exit→Act→World→Prop}{a:Act}{w:World}
  {gf:Nat}{lb:Array Value}(hg:a.eval g=.func (.func gf) #[] lb)(eg:∀args w,(callFunc gf args).run P w=.ok (.enter gf args) w)
  {els:Nat→Array Value}{N:Option Nat}{R:List Nat}{W0:World}(hit:IterAt P gf lb els N R W0)(hb0:Below W0.heap.size W0 w)(hps:∀k,(els k).size=ps.size)
  (I:Nat→List (Nat × Array Value × TypeId)→Prop)(Ix:Code→List (Nat × Array Value × TypeId)→Prop)(M:Nat)(hM:N=none→∀k L,I k L→k<M)
  (L0:List (Nat × Array Value × TypeId))(h0:I 0 L0)(hH:Holds w (objs L0))(hR:∀b∈R,b<w.heap.size∧b∉L0.map (·.1))(a₁:Nat→Act)
  (hassign:∀(l k:Nat)(W:World)(K:Act→World→Prop),K (a₁ k) W →
   assign.wpIn (Fence.wide.inRound l) 0 P (Exit.then K (fun _ _ _=>False)) { tmps:=(ps.zip (els k)).foldl (fun t (p,v)=>t.setIfInBounds p v) a.tmps,defers:=[] } W)
  (hbody:∀(l k:Nat)(L:List (Nat × Array Value × TypeId))(W:World),I k L→In L0 w L W→(∀n,N=some n→k<n)→body.wpIn (Fence.wide.inRound l) 0 P (roundEnd (I (k+1)) Ix L W) (a₁ k) W)
  (hdone:∀(D n:Nat)(L:List (Nat × Array Value × TypeId))(W:World),N=some n→I n L→In L0 w L W→W.heap[D]?=some (.deferred (some []))→w.heap.size≤D→Q .normal { a with defers:={ target:=.collected D,args:=#[] }::a.defers } W)
  (hstop:∀(D:Nat)(c:Code)(L:List (Nat × Array Value × TypeId))(W:World),Ix c L→In L0 w L W→W.heap[D]?=some (.deferred (some []))→w.heap.size≤D→c.wp P Q { a with defers:={ target:=.collected D,args:=#[] }::a.defers } W) :
  (Code.rangeFunc g ps assign body).wp P Q a w:=by
 refine(wpIn_wide (n:=0)).1 (wpIn_rangeFunc ?_)
 intro fn hfn
 obtain⟨rec,hrec⟩:∃rec:LoopState→Option Code→Loop,rec=fun st pe=>{ state:=st,pending:=pe,fn,tmps:=a.tmps,params:=ps,assign,body,defers:=w.heap.size }:=⟨_,rfl⟩
 obtain⟨W1,hW1⟩:∃W1,(w.alloc (.deferred (some []))).alloc (.loop (rec .ready none))=W1:=⟨_,rfl⟩
 have hL1:W1.heap[w.heap.size+1]?=some (.loop (rec .ready none)):=by
  rw[←hW1];have:=World.alloc_heap_new (w.alloc (.deferred (some []))) (.loop (rec .ready none));rwa [World.size_alloc] at this
 have hK1:W1.heap[w.heap.size]?=some (.deferred (some [])):=by
  rw[←hW1];exact(Below.heap_alloc _ _ _ H7).trans (World.alloc_heap_new w _)
 have hbW:Below w.heap.size w W1:=by rw[←hW1];exact((Below.refl _ w).alloc (A4C _) _).alloc H7 _
 have hb1:Below W0.heap.size W0 W1:=hb0.trans (hbW.mono hb0.size)
 have hHk:Holds W1 (objs L0):=hH.kept (B:=[]) (Kept.of_below hbW) (fun _ _=>A5b)
 have hn1:∀m,w.heap.size≤m→m∉L0.map (·.1):=fun m hm0 hm=>by
  rw[←K5] at hm
  obtain⟨x,hx,he⟩:=A4I.1 hm
  have:=hH.lt hx;omega
 have hF0:Holds W1 ([(w.heap.size+1,.loop (rec .ready none)),(w.heap.size,.deferred (some []))]++objs L0):=by
  refine⟨fun x hx=>?_,?_⟩
  ·simp only[A4K,A4x,A4O] at hx
   rcases hx with rfl|rfl|hx
   ·exact hL1
   ·exact hK1
   ·exact hHk.1 x hx
  ·have:=hH.2
   rw[K5] at this
   simp only[A4K,A4x,A5f,K5,A5o,A4O,not_or]
   exact⟨⟨by omega,hn1 _ H6⟩,hn1 _ (A4C _),this⟩
 have hE0:∀x∈[(w.heap.size+1,Obj.loop (rec .ready none)),(w.heap.size,.deferred (some []))],w.heap.size≤x.1:=by
  intro x hx
  simp only[A4O,A5b,or_false] at hx
  rcases hx with rfl|rfl
  ·exact Nat.le_succ _
  ·exact A4C _
 refine⟨w.heap.size+1,[{ target:=.collected w.heap.size,args:=#[] }],W1,{ target:=.fn (.func gf) lb,args:=#[.func (.yield (w.heap.size+1)) #[] #[]] },W1,gf,
  #[.func (.yield (w.heap.size+1)) #[] #[]]++lb,W1,?_,?_,fun _ _=>trivial,?_,(fun h=>by cases h),?_⟩
 ·rw[←hW1,hrec];exact run_enterLoop_outer _ _ _ _ _
 ·simp only[resolve,hg]
  simp[go_sem]
 ·simp[invoke,go_sem,eg]
 ·refine callsIn_wide.2 ?_
  refine(hit (w.heap.size+1)
   (fun k L'=>∃L,L'=[(w.heap.size+1,.loop (rec .ready none)),(w.heap.size,.deferred (some []))]++objs L∧I k L)
   (fun L'=>∃L c,L'=[(w.heap.size+1,.loop (rec .done (some c))),(w.heap.size,.deferred (some []))]++objs L∧Ix c L)
   M W1 ([(w.heap.size+1,.loop (rec .ready none)),(w.heap.size,.deferred (some []))]++objs L0) hb1 ?_ ?_ ⟨L0,rfl,h0⟩ hF0 ?_).mono ?_
  ·intro b hb
   obtain⟨h1,h2⟩:=hR b hb
   simp only[A4K,A4x,A5f,K5,A4O,not_or]
   exact⟨by omega,by omega,h2⟩
  ·rintro hN k L' ⟨L,_,hI⟩;exact hM hN k L hI
  · -- ONE ROUND
   rintro k L' W ⟨L,rfl,hI⟩ hRd hkn
   have hl:W.heap[w.heap.size+1]?=some (.loop (rec .ready none)):=hRd.holds.1 _ (A4t ..)
   have hy:=run_yield (P:=P) (args:=els k) hl (by rw[hrec];exact hps k)
   rw[hrec] at hy
   refine⟨fn,_,assign,body,hy,roundIn_of_wpIn hfn (hassign _ k W _ ⟨_,run_beginRound hl (by rw[hrec]),?_⟩)⟩
   have hRd2:=Rd.put (L:=(w.heap.size,.deferred (some []))::objs L) hRd (.loop { rec .ready none with state:=.busy })
   have hs2:=Rd.put (L:=(w.heap.size,.deferred (some []))::objs L) (Rd.refl hRd.holds) (.loop { rec .ready none with state:=.busy })
   generalize W.putObj (w.heap.size+1) (.loop { rec .ready none with state:=.busy })=W2 at *
   have hIn:In L0 w L W2:=Q6 (E0:=[(w.heap.size+1,.loop (rec .ready none)),(w.heap.size,.deferred (some []))]) (E:=[(w.heap.size+1,.loop { rec .ready none with state:=.busy }),(w.heap.size,.deferred (some []))]) hbW rfl hE0 hRd2
   refine wpIn_mono (hbody _ k L W2 hI hIn hkn) ?_
   have fin:∀(jump:Option Code)(L2:List (Nat × Array Value × TypeId))(W3:World),In L W2 L2 W3 →
     ∃W4,(Instr.endRound (w.heap.size+1) jump).run P W3=.ok (.bool jump.isNone) W4 ∧
      Rd ([(w.heap.size+1,.loop (rec .ready none)),(w.heap.size,.deferred (some []))]++objs L) W ([(w.heap.size+1,.loop (rec (if jump.isNone then .ready else .done) jump)),(w.heap.size,.deferred (some []))]++objs L2) W4:=fun jump L2 W3 h3=>by
    have hf:=Rd.frame (E:=[(w.heap.size+1,.loop { rec .ready none with state:=.busy }),(w.heap.size,.deferred (some []))]) h3.rd hRd2.holds
    have hl3:W3.heap[w.heap.size+1]?=some (.loop { rec .ready none with state:=.busy }):=hf.holds.1 _ (A4t ..)
    have hr:=run_endRound (P:=P) jump hl3
    refine⟨_,hr,?_⟩
    have h5:=Rd.put (L:=(w.heap.size,.deferred (some []))::objs L2) (hs2.trans hf) (.loop (rec (if jump.isNone then .ready else .done) jump))
    rw[hrec] at h5 ⊢
    exact h5
   rintro e a3 W3 hp
   cases e with
   | normal =>
    obtain⟨L2,h3,hi3⟩:=hp
    obtain⟨W4,hr,h4⟩:=fin none L2 W3 h3
    exact⟨_,_,hr,_,h4,.inl ⟨rfl,L2,rfl,hi3⟩⟩
   | ret =>
    obtain⟨L2,h3,hi3⟩:=hp
    obtain⟨W4,hr,h4⟩:=fin (some .ret) L2 W3 h3
    exact⟨_,_,hr,_,h4,.inr ⟨rfl,L2,.ret,rfl,hi3⟩⟩
   | exit id =>
    obtain⟨L2,h3,hi3⟩:=hp
    obtain⟨W4,hr,h4⟩:=fin (some (.exit id)) L2 W3 h3
    exact⟨_,_,hr,_,h4,.inr ⟨rfl,L2,.exit id,rfl,hi3⟩⟩
   | goto t =>
    obtain⟨L2,h3,hi3⟩:=hp
    obtain⟨W4,hr,h4⟩:=fin (some (.goto t)) L2 W3 h3
    exact⟨_,_,hr,_,h4,.inr ⟨rfl,L2,.goto t,rfl,hi3⟩⟩
   | panic ch=>exact hp.elim
   | outgrown=>exact hp.elim
  · -- BEHIND THE ITERATOR
   rintro e W2 ⟨⟨v,rfl⟩,L',hRd,(⟨n,hN,L,rfl,hI⟩|⟨L,c,rfl,hI⟩)⟩
   ·have hl:W2.heap[w.heap.size+1]?=some (.loop (rec .ready none)):=hRd.holds.1 _ (A4t ..)
    have hr:=run_endLoop (P:=P) hl (by rw[hrec];simp)
    have hR2:=Rd.put (L:=(w.heap.size,.deferred (some []))::objs L) hRd (.loop (rec .exhausted (none)))
    rw[show ({ rec .ready none with state:=.exhausted }:Loop)=rec .exhausted (none) by rw[hrec],show (rec .ready none).pending=none by rw[hrec]] at hr
    refine⟨none,_,hr,?_⟩
    exact hdone w.heap.size n L _ hN hI (Q6 (E0:=[(w.heap.size+1,.loop (rec .ready none)),(w.heap.size,.deferred (some []))]) (E:=[(w.heap.size+1,.loop (rec .exhausted (none))),(w.heap.size,.deferred (some []))]) hbW rfl hE0 hR2) (hR2.holds.1 _ (A4A _ (A4t ..))) (A4C _)
   ·have hl:W2.heap[w.heap.size+1]?=some (.loop (rec .done (some c))):=hRd.holds.1 _ (A4t ..)
    have hr:=run_endLoop (P:=P) hl (by rw[hrec];simp)
    have hR2:=Rd.put (L:=(w.heap.size,.deferred (some []))::objs L) hRd (.loop (rec .exhausted (some c)))
    rw[show ({ rec .done (some c) with state:=.exhausted }:Loop)=rec .exhausted (some c) by rw[hrec],show (rec .done (some c)).pending=some c by rw[hrec]] at hr
    refine⟨some c,_,hr,?_⟩
    exact(wpIn_wide (n:=0)).2 (hstop w.heap.size c L _ hI (Q6 (E0:=[(w.heap.size+1,.loop (rec .ready none)),(w.heap.size,.deferred (some []))]) (E:=[(w.heap.size+1,.loop (rec .exhausted (some c))),(w.heap.size,.deferred (some []))]) hbW rfl hE0 hR2) (hR2.holds.1 _ (A4A _ (A4t ..))) (A4C _))
theorem St.holds{w0 wr:World}{L:List (Nat × Array Value × TypeId)}(h:St w0 wr L):Holds wr (objs L):=by
 refine⟨fun x hx=>?_,by rw[K5];exact h.2.2⟩
 obtain⟨y,hy,rfl⟩:=A4I.1 hx
 exact(h.2.1 y hy).2
theorem St.range{w0 w W:World}{L0 L:List (Nat × Array Value × TypeId)}(h:St w0 w L0)(h2:In L0 w L W):St w0 W L:=by
 have hs:=h.1.size
 refine⟨h.1.trans (h2.rd.kept.below hs (fun b hb=>?_)),fun x hx=>⟨?_,h2.rd.holds.1 (x.1,.cells x.2.1 x.2.2) (A4I.2 ⟨x,hx,rfl⟩)⟩,by have:=h2.rd.holds.2;rwa [K5] at this⟩
 ·rw[K5] at hb
  obtain⟨x,hx,rfl⟩:=A4I.1 hb
  exact(h.2.1 x hx).1
 ·rcases h2.rd.fresh (x.1,.cells x.2.1 x.2.2) (A4I.2 ⟨x,hx,rfl⟩) with h3|h3
  ·rw[K5] at h3
   obtain⟨y,hy,he⟩:=A4I.1 h3
   rw[←he];exact(h.2.1 y hy).1
  ·exact A4T hs h3
theorem In.round{L0 L:List (Nat × Array Value × TypeId)}{w W:World}(h:In L0 w L W):In L W L W:=.start h.rd.holds
theorem St.shut{w0 wr:World}{L:List (Nat × Array Value × TypeId)}(h:St w0 wr L){D:Nat}{o:Obj}(hD:wr.heap[D]?=some o)(hc:∀c t f,o≠.cells c t f)(h0:w0.heap.size≤D)(o':Obj):St w0 (wr.putObj D o') L:=by
 refine⟨h.1.trans ⟨rfl,rfl,rfl,by simp,fun k hk=>World.putObj_heap_other H6⟩,fun x hx=>⟨(h.2.1 x hx).1,?_⟩,h.2.2⟩
 refine(World.putObj_heap_other (fun e=>?_)).trans (h.2.1 x hx).2
 have:=(h.2.1 x hx).2
 rw[e] at this
 have h2:wr.heap[D]?=some (.cells x.2.1 x.2.2 (0,0)):=this
 rw[hD] at h2
 exact hc _ _ _ (Option.some.inj h2)
end
section
def noDefer(l:List Oper):Bool:=l.all fun o=>match o.op with|.defer _=>false|_=>true
theorem noDefer_at{l:List Oper}(h:noDefer l=true){i:Nat}{o:Oper}(hi:l[i]?=some o):∀c,o.op≠.defer c:=fun c e=>by
 have:=A5p.1 h o (A5a hi)
 simp[e] at this
section
variable{P:Program}{md:Region.Mode}{lp:Nat}
theorem ready_noneR{ops:Array Oper}{Q:Exit→Act→World→Prop}{listed:Array Bool}{a:Act}{w:World}(hr:Region.ready md ops listed=[])(hQ:Q .normal a w):∀fuel,wpAnyIn (Fence.wide.inRound lp) 0 P md ops Q fuel listed a w
 | 0=>⟨hr,hQ⟩
 | _+1=>⟨fun _=>hQ,fun i hi=>by rw[hr] at hi;cases hi⟩
theorem wpIn_of_at{o:Oper}{a:Act}{v:Value}{K:Act→World→Prop}{Q:Exit→Act→World→Prop}{w:World}{C:World→Prop}(hnd:∀c,o.op≠.defer c)(hC:C w)(h:o.quietAt P a C w v)(hK:∀w',C w'→K (a.put o.dst v) w'):o.wpIn (Fence.wide.inRound lp) 0 P a w K Q:=by
 unfold Oper.quietAt at h
 unfold Oper.wpIn
 refine⟨fun _ _=>trivial,?_⟩
 rw[Oper.semAt_plain _ _ _ hnd]
 generalize (execOp a.eval o).run P w=r at *
 cases r with
 | halt x w'=>exact h.elim
 | ok n w' =>
  cases n<;>simp only[Oper.quietUpon] at h<;>simp only[Oper.uponIn]
  case value u=>obtain⟨rfl,rfl⟩:=h;exact hK _ hC
  case skip=>obtain⟨rfl,rfl⟩:=h;exact hK _ hC
  case enter f args =>
   obtain⟨rfl,h⟩:=h
   refine⟨(fun hd=>by cases hd),callsIn_wide.2 (h.mono fun e w'' he=>?_)⟩
   obtain⟨rfl,hw⟩:=he
   exact hK _ hw
theorem any_tailR{Q:Exit→Act→World→Prop}{l T:List Oper}(hdn:downB md (l++T)=true)(hT:tailOK md (l++T).toArray l.length T=true):∀(r:List Oper)(k fuel:Nat)(listed:Array Bool)(a:Act)(w:World),T.drop k=r→listed.size=(l++T).length→Closed md (l++T).toArray listed →
  (∀j,j<l.length+k→listed.getD j false=true)→(∀j,l.length+k≤j→j<(l++T).length→listed.getD j true=false)→left listed≤fuel→wpListIn (Fence.wide.inRound lp) 0 P (l++T).toArray Q r a w→wpAnyIn (Fence.wide.inRound lp) 0 P md (l++T).toArray Q fuel listed a w
 | [],k,fuel,listed,a,w,hr,hsz,hcl,hl,_,_,h=>by
  have hk:T.length≤k:=List.drop_eq_nil_iff.1 hr
  refine ready_noneR ?_ h fuel
  rw[A5B]
  intro i hi
  obtain⟨h0,o,ho,_⟩:=mem_ready.1 hi
  have hi':i<(l++T).length:=by simpa using (A4H.1 ho).1
  have h1:=hl i (by simp only[A4p] at hi';omega)
  rw[K8 H6 true false,h1] at h0
  cases h0
 | o::r,k,fuel,listed,a,w,hr,hsz,hcl,hl,hu,hf,h=>by
  have hk:k<T.length:=by
   rcases A6t k T.length with h'|h'
   ·exact h'
   ·rw[A4F h'] at hr;cases hr
  have ho:T[k]?=some o:=by
   have:=congrArg (fun l=>l[0]?) hr
   simpa using this
  have hgo:(l++T).toArray[l.length+k]?=some o:=by
   simp only[A4w]
   rw[A4Q H6,A5g,ho]
  have hun:listed.getD (l.length+k) true=false:=hu _ (A4C _) G7
  cases fuel with
  | zero=>have:=A0U hun;omega
  | succ fuel =>
   refine⟨fun h0=>absurd h0 (T7 hdn hsz (l.length+k) G7 hun),fun i hi=>?_⟩
   have hik:i=l.length+k:=by
    obtain⟨h0,oi,hoi,_⟩:=mem_ready.1 hi
    have hi':i<(l++T).length:=by simpa using (A4H.1 hoi).1
    rcases Nat.lt_trichotomy i (l.length+k) with h'|h'|h'
    ·rw[K8 H6 true false,hl i h'] at h0;cases h0
    ·exact h'
    ·have hoT:T[i - l.length]?=some oi:=by
      simp only[A4w] at hoi
      rwa [A4Q H6] at hoi
     have:=T3 hcl hi hoi (W6 hT hoT (i:=l.length+k) H6)
     rw[K8 D2 false true,hun] at this
     cases this
   subst hik
   have hw:wpOpIn (Fence.wide.inRound lp) 0 P (l++T).toArray Q (l.length+k) (wpListIn (Fence.wide.inRound lp) 0 P (l++T).toArray Q r) a w:=by
    unfold wpOpIn
    rw[hgo]
    exact h
   have hd:T.drop (k+1)=r:=by
    have:=congrArg List.tail hr
    simpa using this
   refine wpOpIn_mono (fun a' w' h'=>any_tailR hdn hT r (k+1) fuel _ a' w' hd F9 (hcl.set hi) (fun j hj=>?_) (fun j hj hj2=>?_) (by have:=A0o hun;omega) h') hw
   ·by_cases hjk:l.length+k=j
    ·subst hjk
     have:l.length+k<listed.size:=by simp only[A4p] at hsz;omega
     simp[Array.getD,this]
    ·rw[getD_set_ne false hjk];exact hl j H6
   ·rw[getD_set_ne true H6];exact hu j H6 hj2
theorem any_frontR{Q:Exit→Act→World→Prop}{l T:List Oper}{W:World}{a0:Act}{L:List (Oper × Kind)}(hB:frontOK md l T=true)(hND:noDefer l=true)(hL:L.map (·.1)=l)
  (hstep:∀k x,L[k]?=some x→stepOK P md (l++T).toArray W x.1 (fun b=>actT (L.take k) 0 a0 b) (factsT (L.take k) 0 []) x.2)
  (hQ:∀b w',New W L (fun _=>true) b w'→wpListIn (Fence.wide.inRound lp) 0 P (l++T).toArray Q T (actT L 0 a0 b) w') :
  ∀(fuel:Nat)(listed:Array Bool)(b:Nat→Nat)(a:Act)(w:World),listed.size=(l++T).length→Closed md (l++T).toArray listed→(∀j,l.length≤j→j<(l++T).length→listed.getD j true=false)→left listed≤fuel →
   Sees L a0 (fun j=>listed.getD j false) b a→New W L (fun j=>listed.getD j false) b w→wpAnyIn (Fence.wide.inRound lp) 0 P md (l++T).toArray Q fuel listed a w:=by
 simp only[frontOK,A4P] at hB
 obtain⟨⟨⟨hsel,hdn⟩,hT⟩,hall⟩:=hB
 have hLl:L.length=l.length:=by rw[←hL];simp
 have hlo:∀{i:Nat}{x:Oper × Kind},L[i]?=some x→l[i]?=some x.1:=fun {i x} h=>by rw[←hL];simp[h]
 have hpair:∀{i j:Nat}{x y:Oper × Kind}{t:Tmp},L[i]?=some x→L[j]?=some y→y.1.dst=some t →
   ((i=j∨x.1.dst≠some t)∧(t∈x.1.looksAt (l++T).toArray→j<i∧direct md x.1 j=true)):=fun {i j x y t} hi hj hd=>by
  have hil:i<l.length:=by rw[←hLl];exact(A4v.1 hi).1
  have hjl:j<l.length:=by rw[←hLl];exact(A4v.1 hj).1
  have h1:=A5p.1 hall i (A5K.2 hil)
  simp only[hlo hi] at h1
  have h2:=A5p.1 h1 j (A5K.2 hjl)
  simp only[hlo hj,hd,A4P,A6i,beq_iff_eq,bne_iff_ne,Bool.not_eq_true',decide_eq_true_eq] at h2
  refine⟨h2.1,fun ht=>h2.2.resolve_left ?_⟩
  simp[ht]
 have hA:Apart L:=fun j k x y t hj hk hx hy=>((hpair hj hk hy).1).resolve_right fun h=>h hx
 have hfin:∀(fuel:Nat)(listed:Array Bool)(b:Nat→Nat)(a:Act)(w:World),listed.size=(l++T).length→Closed md (l++T).toArray listed→(∀j,l.length≤j→j<(l++T).length→listed.getD j true=false)→left listed≤fuel →
   Sees L a0 (fun j=>listed.getD j false) b a→New W L (fun j=>listed.getD j false) b w→(∀j,j<l.length→listed.getD j false=true)→wpAnyIn (Fence.wide.inRound lp) 0 P md (l++T).toArray Q fuel listed a w:=by
  intro fuel listed b a w hsz hcl hu hf hS hN hdone
  have ha:a=actT L 0 a0 b:=by
   have h2:=Sees.text hA a0 b L.length (A4C _)
   rw[A6M] at h2
   have ht:a.tmps=(actT L 0 a0 b).tmps:=A5D fun t=>hS.same h2 t fun j x hj _=>by
    have hjl:j<L.length:=(A4v.1 hj).1
    exact⟨hdone j H6,by simpa using hjl⟩
   have hd:a.defers=(actT L 0 a0 b).defers:=hS.1.trans h2.1.symm
   cases a
   cases h:actT L 0 a0 b
   rw[h] at ht hd
   simp only at ht hd
   rw[ht,hd]
  subst ha
  have hN':New W L (fun _=>true) b w:=hN.step (Below.refl _ _) fun j o mk cs t hj _=>hdone j D0
  exact any_tailR hdn hT T 0 fuel listed _ w rfl hsz hcl (fun j hj=>hdone j G1) (fun j hj hj2=>hu j G1 hj2) hf (hQ b w hN')
 intro fuel
 induction fuel with
 | zero =>
  intro listed b a w hsz hcl hu hf hS hN
  refine hfin 0 listed b a w hsz hcl hu hf hS hN fun j hj=>?_
  cases hv:listed.getD j false with
  | true=>rfl
  | false =>
   rw[K8 D2 false true] at hv
   have:=A0U hv;omega
 | succ fuel ih =>
  intro listed b a w hsz hcl hu hf hS hN
  by_cases hdone:∀j,j<l.length→listed.getD j false=true
  ·exact hfin (fuel+1) listed b a w hsz hcl hu hf hS hN hdone
  ·simp only[Classical.not_forall] at hdone
   obtain⟨m,hm,hmu⟩:=hdone
   have hmu':listed.getD m false=false:=by simpa using hmu
   have hmt:listed.getD m true=false:=by rw[K8 D2 true false];exact hmu'
   refine⟨fun h0=>absurd h0 (T7 hdn hsz m (by simp only[A4p];omega) hmt),fun i hi=>?_⟩
   obtain⟨hiu,oi,hoi,_⟩:=mem_ready.1 hi
   have hi':i<(l++T).length:=by simpa using (A4H.1 hoi).1
   have hil:i<l.length:=by
    rcases A6t i l.length with h'|h'
    ·exact h'
    ·have hoT:T[i - l.length]?=some oi:=by
      simp only[A4w] at hoi
      rwa [A4Q h'] at hoi
     have:=T3 hcl hi hoi (W6 hT hoT (i:=m) H6)
     rw[hmu'] at this;cases this
   have hgx:L[i]?=some (L[i]'H6):=A4y H6
   generalize L[i]'H6=x at hgx
   have hox:oi=x.1:=by
    simp only[A4w] at hoi
    rw[A4M hil,hlo hgx] at hoi
    exact(Option.some.inj hoi).symm
   subst hox
   have hsel':∀cs b,x.1.op≠.select cs b:=fun cs b=>Region.noSelect_spec hsel i x.1 cs b (by simpa using hlo hgx)
   have htext:=Sees.text hA a0 b i H6
   have hiu':listed.getD i false=false:=by rw[K8 H6 false true];exact hiu
   -- the frame in the text's order looks the same to this operation
   have hsame:=A2L (ops:=(l++T).toArray) hsel' (a1:=a) (a2:=actT (L.take i) 0 a0 b) fun t ht=>hS.same htext t fun j y hj hd=>by
    have h1:=(hpair hgx hj hd).2 ht
    exact⟨Q4 hi hoi h1.2,by simpa using h1.1⟩
   have hF:FactsAt md x.1 (factsT (L.take i) 0 []) b w:=fun f hf hd=>by
    rcases mem_factsT _ _ _ hf with h1|⟨k,o,mk,hk,he⟩
    ·cases h1
    ·have hk':L[k]?=some (o,.fresh mk f.2.1 f.2.2):=by
      rw[A5h] at hk
      split at hk
      ·exact hk
      ·cases hk
     have:f.1=k:=by omega
     rw[this] at hd ⊢
     exact(hN.2.1 k o mk _ _ hk' (Q4 hi hoi hd)).2
   have hst:=hstep i x hgx
   have hset:∀j,j<L.length→(j == i || listed.getD j false)=(listed.setIfInBounds i true).getD j false:=fun j hj=>by
    by_cases hji:i=j
    ·subst hji
     simp[Array.getD,show i<listed.size by omega]
    ·rw[getD_set_ne false hji];simp[Ne.symm hji]
   have hu':∀j,l.length≤j→j<(l++T).length→(listed.setIfInBounds i true).getD j true=false:=fun j hj hj2=>by
    rw[getD_set_ne true H6];exact hu j hj hj2
   have hf':left (listed.setIfInBounds i true)≤fuel:=by have:=A0o hiu;omega
   have hgo:∀(b':Nat→Nat)(w':World),Sees L a0 (fun j=>j == i || listed.getD j false) b' (a.put x.1.dst (x.2.val (b' i)))→New W L (fun j=>j == i || listed.getD j false) b' w' →
     wpAnyIn (Fence.wide.inRound lp) 0 P md (l++T).toArray Q fuel (listed.setIfInBounds i true) (a.put x.1.dst (x.2.val (b' i))) w':=fun b' w' hS' hN' =>
    ih _ b' _ w' F9 (hcl.set hi) hu' hf' (hS'.congr hset (fun _ _ _=>rfl)) (hN'.step (Below.refl _ _) fun j o mk cs t hj hl=>by
     rw[hset j (A4v.1 hj).1];exact hl)
   obtain⟨o,κ⟩:=x
   unfold wpOpIn
   rw[hoi]
   simp only
   cases κ with
   | fix v =>
    have hkeep:∀w',Below w.heap.size w w'→New W L (fun j=>j == i || listed.getD j false) b w':=fun w' hb=>hN.step hb fun j o' mk cs t hj hl=>by
     by_cases hji:j=i
     ·subst hji;rw[hgx] at hj;cases hj
     ·simpa[hji] using hl
    have hS':=hS.put hA hgx
    rcases hst b w hN.1 hF with⟨hw,hq⟩|⟨hw,hv⟩
    ·rw[←hsame.2] at hw
     rw[if_pos hw]
     refine wpIn_of_at (C:=Below w.heap.size w) (noDefer_at hND (hlo hgx)) (Below.refl _ _) (v:=v) ?_ fun w' hb=>hgo b w' hS' (hkeep w' hb)
     unfold Oper.quietAt at hq ⊢
     rw[hsame.1]
     exact hq
    ·rw[←hsame.2] at hw
     rw[if_neg (by rw[hw];decide)]
     have h1:=hgo b w hS' (hkeep w (Below.refl _ _))
     simp only[Kind.val,hv] at h1
     exact⟨fun _ _=>trivial,h1⟩
   | fresh mk cs t =>
    have hN':=hN.lay hgx hiu'
    have hS1:Sees L a0 (fun j=>listed.getD j false) (fun j=>if j=i then w.heap.size else b j) a:=hS.congr (fun _ _=>rfl) fun j _ hl=>by
     rw[if_neg]
     intro e
     subst e
     rw[hiu'] at hl;cases hl
    have hS':=hS1.put hA hgx
    obtain⟨hw,hr⟩:=hst b w hN.1 hF
    rw[←hsame.2] at hw
    rw[if_pos hw]
    have h1:=hgo _ _ hS' hN'
    unfold Oper.wpIn
    refine⟨fun _ _=>trivial,?_⟩
    rw[Oper.semAt_plain _ _ _ (noDefer_at hND (hlo hgx)),hsame.1,hr,Oper.uponIn_value]
    simpa[Kind.val] using h1
theorem region_monoR{id:Nat}{Q:Exit→Act→World→Prop}{a:Act}{w:World}(l T:List Oper)(hm:P.follows .mixedOrders=true)(hB:frontOK .any l T=true)(hND:noDefer l=true)
  (h:wpM P .any (l++T).toArray w (fun a' F=>∀b w',Cls w w'→(∀x∈F,w.heap.size≤b x.1∧blk w' (b x.1)=some (.cells x.2.1 x.2.2 (0,0)))→(∀x∈F,∀y∈F,x.1≠y.1→b x.1≠b y.1)→wpListIn (Fence.wide.inRound lp) 0 P (l++T).toArray Q T (a' b) w') l 0 (fun _=>a) []) :
  (Code.region id (l++T).toArray true).wpIn (Fence.wide.inRound lp) 0 P Q a w:=by
 obtain⟨L,hL,hstep,hQ⟩:=wpM_out l 0 _ [] h
 refine wpIn_region_any hm (any_frontR hB hND hL hstep (fun b w' hN=>hQ b w' hN.1 (fun x hx=>?_) (fun x hx y hy hne=>?_)) _ _ (fun _=>0) a _ H7 (fun j o _ hl=>by simp only[Array.getD] at hl;split at hl<;>simp at hl) (fun j _ hj=>by simp only[A4p] at hj;simp[Array.getD];omega) ?_ ?_ ?_)
 ·rcases mem_factsT _ _ _ hx with h1|⟨k,o,mk,hk,he⟩
  ·cases h1
  ·have:x.1=k:=by omega
   rw[this]
   exact hN.2.1 k o mk _ _ hk rfl
 ·rcases mem_factsT _ _ _ hx with h1|⟨k,o,mk,hk,he⟩
  ·cases h1
  rcases mem_factsT _ _ _ hy with h1|⟨k',o',mk',hk',he'⟩
  ·cases h1
  have e1:x.1=k:=by omega
  have e2:y.1=k':=by omega
  rw[e1,e2] at hne ⊢
  exact hN.2.2 k k' _ _ _ _ _ _ _ _ hk hk' rfl rfl hne
 ·unfold left
  exact A4T A6r H7
 ·refine(Sees.start L a (fun _=>0)).congr (fun j _=>?_) (fun _ _ _=>rfl)
  simp only[Array.getD]
  split<;>simp
 ·refine⟨⟨rfl,rfl,rfl,A4C _,fun _ _=>rfl⟩,fun j o mk cs t hj hl=>?_,fun i j x y mx cx tx my cy ty hi hj h1 _=>?_⟩
  ·simp only[Array.getD] at hl
   split at hl<;>simp at hl
  ·simp only[Array.getD] at h1
   split at h1<;>simp at h1
theorem L9{id:Nat}{Q:Exit→Act→World→Prop}{a:Act}{w:World}{l:List Oper}(n:Nat)(hm:P.follows .mixedOrders=true)(hB:frontOK .any (l.take n) (l.drop n)=true)(hND:noDefer (l.take n)=true)
  (h:wpM P .any l.toArray w (fun a' F=>∀b w',Cls w w'→(∀x∈F,w.heap.size≤b x.1∧blk w' (b x.1)=some (.cells x.2.1 x.2.2 (0,0)))→(∀x∈F,∀y∈F,x.1≠y.1→b x.1≠b y.1)→wpListIn (Fence.wide.inRound lp) 0 P l.toArray Q (l.drop n) (a' b) w') (l.take n) 0 (fun _=>a) []) :
  (Code.region id l.toArray true).wpIn (Fence.wide.inRound lp) 0 P Q a w:=by
 have:=region_monoR (P:=P) (id:=id) (Q:=Q) (a:=a) (w:=w) (l.take n) (l.drop n) hm hB hND (by rwa [A4L])
 rwa [A4L] at this
end
end
end
end Go.Proofs.YtggbbafanhceaaaGreatRR
