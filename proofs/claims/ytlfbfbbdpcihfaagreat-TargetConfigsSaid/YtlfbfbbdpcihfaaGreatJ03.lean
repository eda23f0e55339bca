/- Laws that the claim uses. No condition of their own. -/
import Derived.Test.YtlfbfbbdpcihfaaGreatJ02
set_option maxRecDepth 100000
set_option maxHeartbeats 8000000
set_option linter.all false
namespace Go.Proofs.YtlfbfbbdpcihfaaGreat
section
open Go.RowKit
section
@[go_sem] theorem wide_fn(f:FuncId):Fence.wide.fn f=True:=rfl
@[go_sem] theorem wide_fn_r(l:Nat)(f:FuncId):(Fence.wide.inRound l).fn f=True:=rfl
@[go_sem] theorem wide_depth:Fence.wide.depth=none:=rfl
@[go_sem] theorem wide_depth_r(l:Nat):(Fence.wide.inRound l).depth=none:=rfl
def Holds(W:World)(L:List (Nat × Obj)):Prop:=(∀x∈L,W.heap[x.1]?=some x.2)/\(L.map (·.1)).Nodup
structure Kept(B:List Nat)(W W':World):Prop where
 os:W'.os=W.os
 tape:W'.tape=W.tape
 output:W'.output=W.output
 size:W.heap.size<=W'.heap.size
 block:∀k,k<W.heap.size->k∉B->W'.heap[k]?=W.heap[k]?
theorem Kept.refl(B:List Nat)(W:World):Kept B W W:=⟨rfl,rfl,rfl,A3t _,fun _ _ _=>rfl⟩
theorem Kept.of_below{B:List Nat}{W W':World}(h:Below W.heap.size W W'):Kept B W W':=⟨h.os,h.tape,h.output,h.size,fun k hk _=>h.block k hk⟩
theorem Kept.trans{B C:List Nat}{W W1 W2:World}(h:Kept B W W1)(k:Kept C W1 W2)(hc:∀b∈C,b∈B\/W.heap.size<=b):Kept B W W2 :=
 ⟨k.os.trans h.os,k.tape.trans h.tape,k.output.trans h.output,A3T h.size k.size,fun b hb hn=>by
  have h1:=h.size
  refine(k.block b E9 (fun hm=>?_)).trans (h.block b hb hn)
  rcases hc b hm with h|h
  ·exact hn h
  ·omega⟩
theorem Kept.below{B:List Nat}{W W':World}{n:Nat}(h:Kept B W W')(hn:n<=W.heap.size)(hB:∀b∈B,n<=b):Below n W W' :=
 ⟨h.os,h.tape,h.output,h.size,fun k hk=>h.block k E9 (fun hm=>by have:=hB k hm;omega)⟩
structure Rd(L:List (Nat × Obj))(W:World)(L':List (Nat × Obj))(W':World):Prop where
 holds:Holds W' L'
 kept:Kept (L.map (·.1)) W W'
 fresh:∀x∈L',x.1∈L.map (·.1)\/W.heap.size<=x.1
theorem Rd.refl{L:List (Nat × Obj)}{W:World}(h:Holds W L):Rd L W L W:=⟨h,.refl _ _,fun x hx=>.inl (A3C.2 ⟨x,hx,rfl⟩)⟩
theorem Rd.trans{L L1 L2:List (Nat × Obj)}{W W1 W2:World}(h:Rd L W L1 W1)(k:Rd L1 W1 L2 W2):Rd L W L2 W2:=by
 have hs:=h.kept.size
 refine⟨k.holds,h.kept.trans k.kept (fun b hb=>?_),fun x hx=>?_⟩
 ·obtain⟨y,hy,rfl⟩:=A3C.1 hb
  exact h.fresh y hy
 ·rcases k.fresh x hx with hm|hm
  ·obtain⟨y,hy,he⟩:=A3C.1 hm
   rw[<-he];exact h.fresh y hy
  ·exact .inr E9
theorem Holds.lt{W:World}{L:List (Nat × Obj)}(h:Holds W L){x:Nat × Obj}(hx:x∈L):x.1<W.heap.size:=(A3y.1 (h.1 x hx)).1
theorem Holds.kept{W W':World}{L:List (Nat × Obj)}{B:List Nat}(h:Holds W L)(k:Kept B W W')(hB:∀x∈L,x.1∉B):Holds W' L :=
 ⟨fun x hx=>(k.block _ (h.lt hx) (hB x hx)).trans (h.1 x hx),h.2⟩
theorem Rd.call{L:List (Nat × Obj)}{W W':World}(h:Holds W L)(hb:Below W.heap.size W W'):Rd L W L W' :=
 ⟨h.kept (B:=[]) (Kept.of_below hb) (fun _ _=>A3W),Kept.of_below hb,fun x hx=>.inl (A3C.2 ⟨x,hx,rfl⟩)⟩
theorem Rd.far{L L':List (Nat × Obj)}{W W':World}(h:Rd L W L' W'){b:Nat}{o:Obj}(hb:W.heap[b]?=some o)(hn:b∉L.map (·.1)):W'.heap[b]?=some o/\b∉L'.map (·.1):=by
 have hlt:=(A3y.1 hb).1
 refine⟨(h.kept.block b hlt hn).trans hb,fun hm=>?_⟩
 obtain⟨x,hx,he⟩:=A3C.1 hm
 rcases h.fresh x hx with h1|h1
 ·exact hn (he ▸ h1)
 ·omega
theorem Rd.farCells{L L':List (Nat × Obj)}{W W':World}(h:Rd L W L' W'){b:Nat}{cs:Array Value}{t:TypeId}{fr:Nat × Nat}(hb:blk W b=some (.cells cs t fr))(hn:b∉L.map (·.1)) :
  blk W' b=some (.cells cs t fr)/\(∀o,W'.cell? ⟨b,o,none⟩=cs[o]?)/\b<W'.heap.size:=by
 have h1:blk W' b=some (.cells cs t fr):=(h.far hb hn).1
 exact⟨h1,fun o=>cell_of_row W' b o cs t _ h1,G1 h1⟩
def IterAt(P:Program)(gf:Nat)(lb:Array Value)(els:Nat->Array Value)(N:Option Nat)(R:List Nat)(W0:World):Prop :=
 ∀(l:Nat)(J:Nat->List (Nat × Obj)->Prop)(Jx:List (Nat × Obj)->Prop)(M:Nat)(W:World)(L0:List (Nat × Obj)),
  Below W0.heap.size W0 W->(∀b∈R,b∉L0.map (·.1))->(N=none->∀k L,J k L->k<M)->J 0 L0->Holds W L0 ->
  (∀k L W1,J k L->Rd L0 W L W1->(∀n,N=some n->k<n) ->
   YieldAt Fence.wide 0 P l (els k) W1 fun e W2=>∃L2,Rd L W1 L2 W2/\((e=.returned (.bool true)/\J (k+1) L2)\/(e=.returned (.bool false)/\Jx L2))) ->
  Calls P gf (#[.func (.yield l) #[] #[]]++lb) W fun e W'=>(∃v,e=.returned v)/\∃L',Rd L0 W L' W'/\((∃n,N=some n/\J n L')\/Jx L')
def objs(L:List (Nat × Array Value × TypeId)):List (Nat × Obj):=L.map fun x=>(x.1,.cells x.2.1 x.2.2)
theorem J2(L:List (Nat × Array Value × TypeId)):(objs L).map (·.1)=L.map (·.1):=by simp[objs,Function.comp]
theorem Holds.cells{W:World}{L:List (Nat × Array Value × TypeId)}(h:Holds W (objs L))(i:Nat){b:Nat}{cs:Array Value}{t:TypeId}(hi:L[i]?=some (b,cs,t)) :
  blk W b=some (.cells cs t (0,0))/\(∀o,W.cell? ⟨b,o,none⟩=cs[o]?)/\(∀o,W.frozen? ⟨b,o,none⟩=false)/\b<W.heap.size/\¬b=W.heap.size:=by
 have h1:blk W b=some (.cells cs t (0,0)):=h.1 (b,.cells cs t) (A3C.2 ⟨_,A4d hi,rfl⟩)
 have h2:=G1 h1
 exact⟨h1,fun o=>cell_of_row W b o cs t _ h1,fun o=>frozen_of_row W b o cs t h1,h2,by omega⟩
structure In(L0:List (Nat × Array Value × TypeId))(W0:World)(L:List (Nat × Array Value × TypeId))(W:World):Prop where
 rd:Rd (objs L0) W0 (objs L) W
theorem In.start{L:List (Nat × Array Value × TypeId)}{W:World}(h:Holds W (objs L)):In L W L W:=⟨.refl h⟩
theorem In.at{L0 L:List (Nat × Array Value × TypeId)}{W0 W:World}(h:In L0 W0 L W)(i:Nat){b:Nat}{cs:Array Value}{t:TypeId}(hi:L[i]?=some (b,cs,t)) :
  blk W b=some (.cells cs t (0,0))/\(∀o,W.cell? ⟨b,o,none⟩=cs[o]?)/\(∀o,W.frozen? ⟨b,o,none⟩=false)/\b<W.heap.size/\¬b=W.heap.size:=h.rd.holds.cells i hi
theorem In.call{L0 L:List (Nat × Array Value × TypeId)}{W0 W W':World}(h:In L0 W0 L W)(hb:Below W.heap.size W W'):In L0 W0 L W':=⟨h.rd.trans (.call h.rd.holds hb)⟩
theorem In.alloc{L0 L:List (Nat × Array Value × TypeId)}{W0 W:World}(h:In L0 W0 L W)(cs:Array Value)(t:TypeId):In L0 W0 ((W.heap.size,cs,t)::L) (W.alloc (.cells cs t)):=by
 refine⟨h.rd.trans ⟨⟨fun x hx=>?_,?_⟩,Kept.of_below ((Below.refl _ _).alloc (A3t _) _),fun x hx=>?_⟩⟩
 ·rcases A3G.1 hx with rfl|hx
  ·exact World.alloc_heap_new _ _
  ·exact(Below.heap_alloc _ _ _ (h.rd.holds.lt hx)).trans (h.rd.holds.1 x hx)
 ·have:=h.rd.holds.2
  rw[J2] at this |-
  simp only[A3X,A4a]
  refine⟨fun hm=>?_,this⟩
  obtain⟨x,hx,he⟩:=A3C.1 hm
  have:=h.rd.holds.lt (x:=(x.1,.cells x.2.1 x.2.2)) (A3C.2 ⟨x,hx,rfl⟩)
  simp only at this
  omega
 ·rcases A3G.1 hx with rfl|hx
  ·exact .inr (A3t _)
  ·exact .inl (A3C.2 ⟨x,hx,rfl⟩)
theorem In.setRow{L0 L:List (Nat × Array Value × TypeId)}{W0 W:World}(h:In L0 W0 L W)(i:Nat){b:Nat}{cs:Array Value}{t:TypeId}(hi:L[i]?=some (b,cs,t))(cs':Array Value):In L0 W0 (L.set i (b,cs',t)) (W.setRow b cs'):=by
 have hil:i<L.length:=(A3n.1 hi).1
 have hm:=h.at i hi
 have hk:(L.set i (b,cs',t)).map (·.1)=L.map (·.1):=by
  rw[List.map_set]
  have:b=(L.map (·.1))[i]'(by simpa using hil):=by
   have:=(A3n.1 hi).2
   simp[this]
  simp only[this,List.set_getElem_self]
 have hnd:(L.map (·.1)).Nodup:=by have:=h.rd.holds.2;rwa [J2] at this
 refine⟨h.rd.trans ⟨⟨fun x hx=>?_,?_⟩,⟨rfl,rfl,rfl,by simp,fun k hk2 hn=>setRow_other W b k cs' (fun e=>?_)⟩,fun x hx=>.inl ?_⟩⟩
 ·obtain⟨y,hy,rfl⟩:=A3C.1 hx
  obtain⟨j,hj,rfl⟩:=List.getElem_of_mem hy
  simp only[A4w] at hj
  rw[List.getElem_set]
  split
  ·exact A1e hm.1 _
  ·rename_i hij
   have h2:=h.at j (A3p hj)
   refine(setRow_other W b _ cs' (fun he=>?_)).trans h2.1
   have e1:(L.map (·.1))[i]'(by simpa using hil)=b:=by
    have:=(A3n.1 hi).2
    simp[this]
   have e2:(L.map (·.1))[j]'E4=b:=by simp only[List.getElem_map];exact he
   exact hij ((List.getElem_inj hnd).1 (e1.trans e2.symm))
 ·rw[J2,hk];exact hnd
 ·subst e;exact hn (by rw[J2];exact A3C.2 ⟨_,A4d hi,rfl⟩)
 ·have:x.1∈(objs (L.set i (b,cs',t))).map (·.1):=A3C.2 ⟨x,hx,rfl⟩
  rwa [J2,hk,<-J2] at this
theorem In.setCell{L0 L:List (Nat × Array Value × TypeId)}{W0 W:World}(h:In L0 W0 L W)(i:Nat){b:Nat}{cs:Array Value}{t:TypeId}(hi:L[i]?=some (b,cs,t))(o:Nat)(v:Value):In L0 W0 (L.set i (b,cs.setIfInBounds o v,t)) (W.setCell ⟨b,o,none⟩ v):=by
 rw[setCell_eq_setRow W b o cs t (0,0) v (h.at i hi).1]
 exact h.setRow i hi _
theorem In.tail{L0 L:List (Nat × Array Value × TypeId)}{x:Nat × Array Value × TypeId}{W0 W:World}(h:In L0 W0 (x::L) W):In L0 W0 L W:=by
 refine⟨⟨⟨fun y hy=>h.rd.holds.1 y (A3l _ hy),?_⟩,h.rd.kept,fun y hy=>h.rd.fresh y (A3l _ hy)⟩⟩
 have:=h.rd.holds.2
 rw[J2] at this |-
 exact(A4a.1 (by simpa using this)).2
def roundEnd(I:List (Nat × Array Value × TypeId)->Prop)(Ix:Code->List (Nat × Array Value × TypeId)->Prop)(L0:List (Nat × Array Value × TypeId))(W0:World):Exit->Act->World->Prop
 | .normal,_,W=>∃L,In L0 W0 L W/\I L
 | .ret,_,W=>∃L,In L0 W0 L W/\Ix .ret L
 | .exit id,_,W=>∃L,In L0 W0 L W/\Ix (.exit id) L
 | .goto t,_,W=>∃L,In L0 W0 L W/\Ix (.goto t) L
 | .panic _,_,_=>False
 | .outgrown,_,_=>False
theorem Rd.frame{E L L2:List (Nat × Obj)}{W W3:World}(h:Rd L W L2 W3)(hE:Holds W (E++L)):Rd (E++L) W (E++L2) W3:=by
 have hd:=hE.2
 rw[A3J,A5e] at hd
 refine⟨⟨fun x hx=>?_,?_⟩,⟨h.kept.os,h.kept.tape,h.kept.output,h.kept.size,fun k hk hn=>h.kept.block k hk (fun hm=>hn (by rw[A3J];exact A3L _ hm))⟩,fun x hx=>?_⟩
 ·rcases A3Y.1 hx with hx|hx
  ·have hxE:x∈E++L:=A4B _ hx
   refine(h.kept.block _ (hE.lt hxE) (fun hm=>?_)).trans (hE.1 x hxE)
   exact hd.2.2 _ (A3C.2 ⟨x,hx,rfl⟩) _ hm rfl
  ·exact h.holds.1 x hx
 ·rw[A3J,A5e]
  refine⟨hd.1,h.holds.2,fun a ha b hb he=>?_⟩
  subst he
  obtain⟨x,hx,rfl⟩:=A3C.1 ha
  obtain⟨y,hy,he⟩:=A3C.1 hb
  rcases h.fresh y hy with h1|h1
  ·exact hd.2.2 _ ha _ (he ▸ h1) rfl
  ·have:=hE.lt (A4B L hx)
   omega
 ·rcases A3Y.1 hx with hx|hx
  ·exact .inl (A3C.2 ⟨x,A4B _ hx,rfl⟩)
  ·rcases h.fresh x hx with h1|h1
   ·exact .inl (by rw[A3J];exact A3L _ h1)
   ·exact .inr h1
theorem R5{E0 E:List (Nat × Obj)}{L0 L:List (Nat × Array Value × TypeId)}{w W1 W:World}(hb:Below w.heap.size w W1)(hk:E.map (·.1)=E0.map (·.1))(hE:∀x∈E0,w.heap.size<=x.1)(h:Rd (E0++objs L0) W1 (E++objs L) W):In L0 w L W:=by
 have hnd:=h.holds.2
 rw[A3J,A5e] at hnd
 have hs:=hb.size
 refine⟨⟨⟨fun x hx=>h.holds.1 x (A3L _ hx),hnd.2.1⟩,⟨h.kept.os.trans hb.os,h.kept.tape.trans hb.tape,h.kept.output.trans hb.output,A3T hs h.kept.size,fun k hk2 hn=>?_⟩,fun x hx=>?_⟩⟩
 ·refine(h.kept.block k E9 (fun hm=>?_)).trans (hb.block k hk2)
  rw[A3J,A3Y] at hm
  rcases hm with hm|hm
  ·obtain⟨y,hy,rfl⟩:=A3C.1 hm
   have:=hE y hy;omega
  ·exact hn hm
 ·rcases h.fresh x (A3L _ hx) with h1|h1
  ·rw[A3J,A3Y] at h1
   rcases h1 with h1|h1
   ·rw[<-hk] at h1
    exact(hnd.2.2 _ h1 _ (A3C.2 ⟨x,hx,rfl⟩) rfl).elim
   ·exact .inl h1
  ·exact .inr E9
theorem Rd.put{L0 L:List (Nat × Obj)}{W0 W:World}{l:Nat}{o:Obj}(h:Rd L0 W0 ((l,o)::L) W)(o':Obj):Rd L0 W0 ((l,o')::L) (W.putObj l o'):=by
 have hlt:=h.holds.lt (A3m ..)
 have hnd:=h.holds.2
 simp only[A3X,A4a] at hnd
 refine h.trans ⟨⟨fun x hx=>?_,by simpa using hnd⟩,⟨rfl,rfl,rfl,by simp,fun k hk2 hn=>World.putObj_heap_other (fun e=>hn (by simp[e]))⟩,fun x hx=>.inl ?_⟩
 ·rcases A3G.1 hx with rfl|hx
  ·exact World.putObj_heap_same hlt
  ·exact(World.putObj_heap_other (fun e=>hnd.1 (by rw[<-e];exact A3C.2 ⟨x,hx,rfl⟩))).trans (h.holds.1 x (A3l _ hx))
 ·have:x.1∈((l,o')::L).map (·.1):=A3C.2 ⟨x,hx,rfl⟩
  simpa using this
theorem St.holds{w0 wr:World}{L:List (Nat × Array Value × TypeId)}(h:St w0 wr L):Holds wr (objs L):=by
 refine⟨fun x hx=>?_,by rw[J2];exact h.2.2⟩
 obtain⟨y,hy,rfl⟩:=A3C.1 hx
 exact(h.2.1 y hy).2
theorem St.range{w0 w W:World}{L0 L:List (Nat × Array Value × TypeId)}(h:St w0 w L0)(h2:In L0 w L W):St w0 W L:=by
 have hs:=h.1.size
 refine⟨h.1.trans (h2.rd.kept.below hs (fun b hb=>?_)),fun x hx=>⟨?_,h2.rd.holds.1 (x.1,.cells x.2.1 x.2.2) (A3C.2 ⟨x,hx,rfl⟩)⟩,by have:=h2.rd.holds.2;rwa [J2] at this⟩
 ·rw[J2] at hb
  obtain⟨x,hx,rfl⟩:=A3C.1 hb
  exact(h.2.1 x hx).1
 ·rcases h2.rd.fresh (x.1,.cells x.2.1 x.2.2) (A3C.2 ⟨x,hx,rfl⟩) with h3|h3
  ·rw[J2] at h3
   obtain⟨y,hy,he⟩:=A3C.1 h3
   rw[<-he];exact(h.2.1 y hy).1
  ·exact A3T hs h3
theorem In.round{L0 L:List (Nat × Array Value × TypeId)}{w W:World}(h:In L0 w L W):In L W L W:=.start h.rd.holds
theorem St.shut{w0 wr:World}{L:List (Nat × Array Value × TypeId)}(h:St w0 wr L){D:Nat}{o:Obj}(hD:wr.heap[D]?=some o)(hc:∀c t f,o≠.cells c t f)(h0:w0.heap.size<=D)(o':Obj):St w0 (wr.putObj D o') L:=by
 refine⟨h.1.trans ⟨rfl,rfl,rfl,by simp,fun k hk=>World.putObj_heap_other E9⟩,fun x hx=>⟨(h.2.1 x hx).1,?_⟩,h.2.2⟩
 refine(World.putObj_heap_other (fun e=>?_)).trans (h.2.1 x hx).2
 have:=(h.2.1 x hx).2
 rw[e] at this
 have h2:wr.heap[D]?=some (.cells x.2.1 x.2.2 (0,0)):=this
 rw[hD] at h2
 exact hc _ _ _ (Option.some.inj h2)
end
section
def noDefer(l:List Oper):Bool:=l.all fun o=>match o.op with|.defer _=>false|_=>true
theorem noDefer_at{l:List Oper}(h:noDefer l=true){i:Nat}{o:Oper}(hi:l[i]?=some o):∀c,o.op≠.defer c:=fun c e=>by
 have:=A3V.1 h o (A4d hi)
 simp[e] at this
section
variable{P:Program}{md:Region.Mode}{lp:Nat}
theorem ready_noneR{ops:Array Oper}{Q:Exit->Act->World->Prop}{listed:Array Bool}{a:Act}{w:World}(hr:Region.ready md ops listed=[])(hQ:Q .normal a w):∀fuel,wpAnyIn (Fence.wide.inRound lp) 0 P md ops Q fuel listed a w
 | 0=>⟨hr,hQ⟩
 | _+1=>⟨fun _=>hQ,fun i hi=>by rw[hr] at hi;cases hi⟩
theorem wpIn_of_at{o:Oper}{a:Act}{v:Value}{K:Act->World->Prop}{Q:Exit->Act->World->Prop}{w:World}{C:World->Prop}(hnd:∀c,o.op≠.defer c)(hC:C w)(h:o.quietAt P a C w v)(hK:∀w',C w'->K (a.put o.dst v) w'):o.wpIn (Fence.wide.inRound lp) 0 P a w K Q:=by
 unfold Oper.quietAt at h
 unfold Oper.wpIn
 refine⟨fun _ _=>trivial,?_⟩
 rw[Oper.semAt_plain _ _ _ hnd]
 generalize (execOp a.eval o).run P w=r at *
 cases r with
 | halt x w'=>exact h.elim
 | ok n w' =>
  cases n<;>simp only[Oper.quietUpon] at h<;>simp only[Oper.uponIn]
  case value u=>obtain⟨rfl,rfl⟩:=h;exact hK _ hC
  case skip=>obtain⟨rfl,rfl⟩:=h;exact hK _ hC
  case enter f args =>
   obtain⟨rfl,h⟩:=h
   refine⟨(fun hd=>by cases hd),callsIn_wide.2 (h.mono fun e w'' he=>?_)⟩
   obtain⟨rfl,hw⟩:=he
   exact hK _ hw
theorem any_tailR{Q:Exit->Act->World->Prop}{l T:List Oper}(hdn:downB md (l++T)=true)(hT:tailOK md (l++T).toArray l.length T=true):∀(r:List Oper)(k fuel:Nat)(listed:Array Bool)(a:Act)(w:World),T.drop k=r->listed.size=(l++T).length->Closed md (l++T).toArray listed ->
  (∀j,j<l.length+k->listed.getD j false=true)->(∀j,l.length+k<=j->j<(l++T).length->listed.getD j true=false)->left listed<=fuel->wpListIn (Fence.wide.inRound lp) 0 P (l++T).toArray Q r a w->wpAnyIn (Fence.wide.inRound lp) 0 P md (l++T).toArray Q fuel listed a w
 | [],k,fuel,listed,a,w,hr,hsz,hcl,hl,_,_,h=>by
  have hk:T.length<=k:=List.drop_eq_nil_iff.1 hr
  refine ready_noneR ?_ h fuel
  rw[A4s]
  intro i hi
  obtain⟨h0,o,ho,_⟩:=mem_ready.1 hi
  have hi':i<(l++T).length:=by simpa using (A3y.1 ho).1
  have h1:=hl i (by simp only[A3k] at hi';omega)
  rw[H8 E9 true false,h1] at h0
  cases h0
 | o::r,k,fuel,listed,a,w,hr,hsz,hcl,hl,hu,hf,h=>by
  have hk:k<T.length:=by
   rcases A5n k T.length with h'|h'
   ·exact h'
   ·rw[A3M h'] at hr;cases hr
  have ho:T[k]?=some o:=by
   have:=congrArg (fun l=>l[0]?) hr
   simpa using this
  have hgo:(l++T).toArray[l.length+k]?=some o:=by
   simp only[A3o]
   rw[A3P E9,A4e,ho]
  have hun:listed.getD (l.length+k) true=false:=hu _ (A3t _) E6
  cases fuel with
  | zero=>have:=A0f hun;omega
  | succ fuel =>
   refine⟨fun h0=>absurd h0 (Q1 hdn hsz (l.length+k) E6 hun),fun i hi=>?_⟩
   have hik:i=l.length+k:=by
    obtain⟨h0,oi,hoi,_⟩:=mem_ready.1 hi
    have hi':i<(l++T).length:=by simpa using (A3y.1 hoi).1
    rcases Nat.lt_trichotomy i (l.length+k) with h'|h'|h'
    ·rw[H8 E9 true false,hl i h'] at h0;cases h0
    ·exact h'
    ·have hoT:T[i - l.length]?=some oi:=by
      simp only[A3o] at hoi
      rwa [A3P E9] at hoi
     have:=P1 hcl hi hoi (T9 hT hoT (i:=l.length+k) E9)
     rw[H8 C7 false true,hun] at this
     cases this
   subst hik
   have hw:wpOpIn (Fence.wide.inRound lp) 0 P (l++T).toArray Q (l.length+k) (wpListIn (Fence.wide.inRound lp) 0 P (l++T).toArray Q r) a w:=by
    unfold wpOpIn
    rw[hgo]
    exact h
   have hd:T.drop (k+1)=r:=by
    have:=congrArg List.tail hr
    simpa using this
   refine wpOpIn_mono (fun a' w' h'=>any_tailR hdn hT r (k+1) fuel _ a' w' hd E2 (hcl.set hi) (fun j hj=>?_) (fun j hj hj2=>?_) (by have:=A0c hun;omega) h') hw
   ·by_cases hjk:l.length+k=j
    ·subst hjk
     have:l.length+k<listed.size:=by simp only[A3k] at hsz;omega
     simp[Array.getD,this]
    ·rw[getD_set_ne false hjk];exact hl j E9
   ·rw[getD_set_ne true E9];exact hu j E9 hj2
theorem any_frontR{Q:Exit->Act->World->Prop}{l T:List Oper}{W:World}{a0:Act}{L:List (Oper × Kind)}(hB:frontOK md l T=true)(hND:noDefer l=true)(hL:L.map (·.1)=l)
  (hstep:∀k x,L[k]?=some x->stepOK P md (l++T).toArray W x.1 (fun b=>actT (L.take k) 0 a0 b) (factsT (L.take k) 0 []) x.2)
  (hQ:∀b w',New W L (fun _=>true) b w'->wpListIn (Fence.wide.inRound lp) 0 P (l++T).toArray Q T (actT L 0 a0 b) w') :
  ∀(fuel:Nat)(listed:Array Bool)(b:Nat->Nat)(a:Act)(w:World),listed.size=(l++T).length->Closed md (l++T).toArray listed->(∀j,l.length<=j->j<(l++T).length->listed.getD j true=false)->left listed<=fuel ->
   Sees L a0 (fun j=>listed.getD j false) b a->New W L (fun j=>listed.getD j false) b w->wpAnyIn (Fence.wide.inRound lp) 0 P md (l++T).toArray Q fuel listed a w:=by
 simp only[frontOK,A3A] at hB
 obtain⟨⟨⟨hsel,hdn⟩,hT⟩,hall⟩:=hB
 have hLl:L.length=l.length:=by rw[<-hL];simp
 have hlo:∀{i:Nat}{x:Oper × Kind},L[i]?=some x->l[i]?=some x.1:=fun {i x} h=>by rw[<-hL];simp[h]
 have hpair:∀{i j:Nat}{x y:Oper × Kind}{t:Tmp},L[i]?=some x->L[j]?=some y->y.1.dst=some t ->
   ((i=j\/x.1.dst≠some t)/\(t∈x.1.looksAt (l++T).toArray->j<i/\direct md x.1 j=true)):=fun {i j x y t} hi hj hd=>by
  have hil:i<l.length:=by rw[<-hLl];exact(A3n.1 hi).1
  have hjl:j<l.length:=by rw[<-hLl];exact(A3n.1 hj).1
  have h1:=A3V.1 hall i (A4m.2 hil)
  simp only[hlo hi] at h1
  have h2:=A3V.1 h1 j (A4m.2 hjl)
  simp only[hlo hj,hd,A3A,A4S,beq_iff_eq,bne_iff_ne,A4F,decide_eq_true_eq] at h2
  refine⟨h2.1,fun ht=>h2.2.resolve_left ?_⟩
  simp[ht]
 have hA:Apart L:=fun j k x y t hj hk hx hy=>((hpair hj hk hy).1).resolve_right fun h=>h hx
 have hfin:∀(fuel:Nat)(listed:Array Bool)(b:Nat->Nat)(a:Act)(w:World),listed.size=(l++T).length->Closed md (l++T).toArray listed->(∀j,l.length<=j->j<(l++T).length->listed.getD j true=false)->left listed<=fuel ->
   Sees L a0 (fun j=>listed.getD j false) b a->New W L (fun j=>listed.getD j false) b w->(∀j,j<l.length->listed.getD j false=true)->wpAnyIn (Fence.wide.inRound lp) 0 P md (l++T).toArray Q fuel listed a w:=by
  intro fuel listed b a w hsz hcl hu hf hS hN hdone
  have ha:a=actT L 0 a0 b:=by
   have h2:=Sees.text hA a0 b L.length (A3t _)
   rw[A5P] at h2
   have ht:a.tmps=(actT L 0 a0 b).tmps:=A4N fun t=>hS.same h2 t fun j x hj _=>by
    have hjl:j<L.length:=(A3n.1 hj).1
    exact⟨hdone j E9,by simpa using hjl⟩
   have hd:a.defers=(actT L 0 a0 b).defers:=hS.1.trans h2.1.symm
   cases a
   cases h:actT L 0 a0 b
   rw[h] at ht hd
   simp only at ht hd
   rw[ht,hd]
  subst ha
  have hN':New W L (fun _=>true) b w:=hN.step (Below.refl _ _) fun j o mk cs t hj _=>hdone j C6
  exact any_tailR hdn hT T 0 fuel listed _ w rfl hsz hcl (fun j hj=>hdone j E4) (fun j hj hj2=>hu j E4 hj2) hf (hQ b w hN')
 intro fuel
 induction fuel with
 | zero =>
  intro listed b a w hsz hcl hu hf hS hN
  refine hfin 0 listed b a w hsz hcl hu hf hS hN fun j hj=>?_
  cases hv:listed.getD j false with
  | true=>rfl
  | false =>
   rw[H8 C7 false true] at hv
   have:=A0f hv;omega
 | succ fuel ih =>
  intro listed b a w hsz hcl hu hf hS hN
  by_cases hdone:∀j,j<l.length->listed.getD j false=true
  ·exact hfin (fuel+1) listed b a w hsz hcl hu hf hS hN hdone
  ·simp only[Classical.not_forall] at hdone
   obtain⟨m,hm,hmu⟩:=hdone
   have hmu':listed.getD m false=false:=by simpa using hmu
   have hmt:listed.getD m true=false:=by rw[H8 C7 true false];exact hmu'
   refine⟨fun h0=>absurd h0 (Q1 hdn hsz m C8 hmt),fun i hi=>?_⟩
   obtain⟨hiu,oi,hoi,_⟩:=mem_ready.1 hi
   have hi':i<(l++T).length:=by simpa using (A3y.1 hoi).1
   have hil:i<l.length:=by
    rcases A5n i l.length with h'|h'
    ·exact h'
    ·have hoT:T[i - l.length]?=some oi:=by
      simp only[A3o] at hoi
      rwa [A3P h'] at hoi
     have:=P1 hcl hi hoi (T9 hT hoT (i:=m) E9)
     rw[hmu'] at this;cases this
   have hgx:L[i]?=some (L[i]'E9):=A3p E9
   generalize L[i]'E9=x at hgx
   have hox:oi=x.1:=by
    simp only[A3o] at hoi
    rw[A3E hil,hlo hgx] at hoi
    exact(Option.some.inj hoi).symm
   subst hox
   have hsel':∀cs b,x.1.op≠.select cs b:=fun cs b=>Region.noSelect_spec hsel i x.1 cs b (by simpa using hlo hgx)
   have htext:=Sees.text hA a0 b i E9
   have hiu':listed.getD i false=false:=by rw[H8 E9 false true];exact hiu
   -- the frame in the text's order looks the same to this operation
   have hsame:=A1X (ops:=(l++T).toArray) hsel' (a1:=a) (a2:=actT (L.take i) 0 a0 b) fun t ht=>hS.same htext t fun j y hj hd=>by
    have h1:=(hpair hgx hj hd).2 ht
    exact⟨O3 hi hoi h1.2,by simpa using h1.1⟩
   have hF:FactsAt md x.1 (factsT (L.take i) 0 []) b w:=fun f hf hd=>by
    rcases mem_factsT _ _ _ hf with h1|⟨k,o,mk,hk,he⟩
    ·cases h1
    ·have hk':L[k]?=some (o,.fresh mk f.2.1 f.2.2):=by
      rw[A4f] at hk
      split at hk
      ·exact hk
      ·cases hk
     have:f.1=k:=by omega
     rw[this] at hd |-
     exact(hN.2.1 k o mk _ _ hk' (O3 hi hoi hd)).2
   have hst:=hstep i x hgx
   have hset:∀j,j<L.length->(j == i || listed.getD j false)=(listed.setIfInBounds i true).getD j false:=fun j hj=>by
    by_cases hji:i=j
    ·subst hji
     simp[Array.getD,show i<listed.size by omega]
    ·rw[getD_set_ne false hji];simp[Ne.symm hji]
   have hu':∀j,l.length<=j->j<(l++T).length->(listed.setIfInBounds i true).getD j true=false:=fun j hj hj2=>by
    rw[getD_set_ne true E9];exact hu j hj hj2
   have hf':left (listed.setIfInBounds i true)<=fuel:=by have:=A0c hiu;omega
   have hgo:∀(b':Nat->Nat)(w':World),Sees L a0 (fun j=>j == i || listed.getD j false) b' (a.put x.1.dst (x.2.val (b' i)))->New W L (fun j=>j == i || listed.getD j false) b' w' ->
     wpAnyIn (Fence.wide.inRound lp) 0 P md (l++T).toArray Q fuel (listed.setIfInBounds i true) (a.put x.1.dst (x.2.val (b' i))) w':=fun b' w' hS' hN' =>
    ih _ b' _ w' E2 (hcl.set hi) hu' hf' (hS'.congr hset (fun _ _ _=>rfl)) (hN'.step (Below.refl _ _) fun j o mk cs t hj hl=>by
     rw[hset j (A3n.1 hj).1];exact hl)
   obtain⟨o,κ⟩:=x
   unfold wpOpIn
   rw[hoi]
   simp only
   cases κ with
   | fix v =>
    have hkeep:∀w',Below w.heap.size w w'->New W L (fun j=>j == i || listed.getD j false) b w':=fun w' hb=>hN.step hb fun j o' mk cs t hj hl=>by
     by_cases hji:j=i
     ·subst hji;rw[hgx] at hj;cases hj
     ·simpa[hji] using hl
    have hS':=hS.put hA hgx
    rcases hst b w hN.1 hF with⟨hw,hq⟩|⟨hw,hv⟩
    ·rw[<-hsame.2] at hw
     rw[if_pos hw]
     refine wpIn_of_at (C:=Below w.heap.size w) (noDefer_at hND (hlo hgx)) (Below.refl _ _) (v:=v) ?_ fun w' hb=>hgo b w' hS' (hkeep w' hb)
     unfold Oper.quietAt at hq |-
     rw[hsame.1]
     exact hq
    ·rw[<-hsame.2] at hw
     rw[if_neg (by rw[hw];decide)]
     have h1:=hgo b w hS' (hkeep w (Below.refl _ _))
     simp only[Kind.val,hv] at h1
     exact⟨fun _ _=>trivial,h1⟩
   | fresh mk cs t =>
    have hN':=hN.lay hgx hiu'
    have hS1:Sees L a0 (fun j=>listed.getD j false) (fun j=>if j=i then w.heap.size else b j) a:=hS.congr (fun _ _=>rfl) fun j _ hl=>by
     rw[if_neg]
     intro e
     subst e
     rw[hiu'] at hl;cases hl
    have hS':=hS1.put hA hgx
    obtain⟨hw,hr⟩:=hst b w hN.1 hF
    rw[<-hsame.2] at hw
    rw[if_pos hw]
    have h1:=hgo _ _ hS' hN'
    unfold Oper.wpIn
    refine⟨fun _ _=>trivial,?_⟩
    rw[Oper.semAt_plain _ _ _ (noDefer_at hND (hlo hgx)),hsame.1,hr,Oper.uponIn_value]
    simpa[Kind.val] using h1
theorem region_monoR{id:Nat}{Q:Exit->Act->World->Prop}{a:Act}{w:World}(l T:List Oper)(hm:P.follows .mixedOrders=true)(hB:frontOK .any l T=true)(hND:noDefer l=true)
  (h:wpM P .any (l++T).toArray w (fun a' F=>∀b w',Cls w w'->(∀x∈F,w.heap.size<=b x.1/\blk w' (b x.1)=some (.cells x.2.1 x.2.2 (0,0)))->(∀x∈F,∀y∈F,x.1≠y.1->b x.1≠b y.1)->wpListIn (Fence.wide.inRound lp) 0 P (l++T).toArray Q T (a' b) w') l 0 (fun _=>a) []) :
  (Code.region id (l++T).toArray true).wpIn (Fence.wide.inRound lp) 0 P Q a w:=by
 obtain⟨L,hL,hstep,hQ⟩:=wpM_out l 0 _ [] h
 refine wpIn_region_any hm (any_frontR hB hND hL hstep (fun b w' hN=>hQ b w' hN.1 (fun x hx=>?_) (fun x hx y hy hne=>?_)) _ _ (fun _=>0) a _ F0 (fun j o _ hl=>by simp only[Array.getD] at hl;split at hl<;>simp at hl) (fun j _ hj=>by simp only[A3k] at hj;simp[Array.getD];omega) ?_ ?_ ?_)
 ·rcases mem_factsT _ _ _ hx with h1|⟨k,o,mk,hk,he⟩
  ·cases h1
  ·have:x.1=k:=by omega
   rw[this]
   exact hN.2.1 k o mk _ _ hk rfl
 ·rcases mem_factsT _ _ _ hx with h1|⟨k,o,mk,hk,he⟩
  ·cases h1
  rcases mem_factsT _ _ _ hy with h1|⟨k',o',mk',hk',he'⟩
  ·cases h1
  have e1:x.1=k:=by omega
  have e2:y.1=k':=by omega
  rw[e1,e2] at hne |-
  exact hN.2.2 k k' _ _ _ _ _ _ _ _ hk hk' rfl rfl hne
 ·unfold left
  exact A3T List.countP_le_length F0
 ·refine(Sees.start L a (fun _=>0)).congr (fun j _=>?_) (fun _ _ _=>rfl)
  simp only[Array.getD]
  split<;>simp
 ·refine⟨⟨rfl,rfl,rfl,A3t _,fun _ _=>rfl⟩,fun j o mk cs t hj hl=>?_,fun i j x y mx cx tx my cy ty hi hj h1 _=>?_⟩
  ·simp only[Array.getD] at hl
   split at hl<;>simp at hl
  ·simp only[Array.getD] at h1
   split at h1<;>simp at h1
theorem K9{id:Nat}{Q:Exit->Act->World->Prop}{a:Act}{w:World}{l:List Oper}(n:Nat)(hm:P.follows .mixedOrders=true)(hB:frontOK .any (l.take n) (l.drop n)=true)(hND:noDefer (l.take n)=true)
  (h:wpM P .any l.toArray w (fun a' F=>∀b w',Cls w w'->(∀x∈F,w.heap.size<=b x.1/\blk w' (b x.1)=some (.cells x.2.1 x.2.2 (0,0)))->(∀x∈F,∀y∈F,x.1≠y.1->b x.1≠b y.1)->wpListIn (Fence.wide.inRound lp) 0 P l.toArray Q (l.drop n) (a' b) w') (l.take n) 0 (fun _=>a) []) :
  (Code.region id l.toArray true).wpIn (Fence.wide.inRound lp) 0 P Q a w:=by
 have:=region_monoR (P:=P) (id:=id) (Q:=Q) (a:=a) (w:=w) (l.take n) (l.drop n) hm hB hND (by rwa [A3O])
 rwa [A3O] at this
end
end
section
structure Laid where
 objs:Array Obj
 drawn:Nat
def Laid.n(g:Laid):Nat:=g.objs.size
def grow(w:World)(g:Laid):World:={ w with heap:=w.heap++g.objs,drawn:=g.drawn }
def putRow(w:World)(b:Nat)(cs:Array Value)(t:TypeId):World:={ w with heap:=w.heap.setIfInBounds b (.cells cs t (0,0)) }
theorem grow_heap(w:World)(g:Laid)(k:Nat)(h:k<w.heap.size):(grow w g).heap[k]?=w.heap[k]?:=by
 show (w.heap++g.objs)[k]?=_
 rw[Array.getElem?_append,if_pos h]
@[go_sem] theorem grow_size(w:World)(g:Laid):(grow w g).heap.size=w.heap.size+g.n:=by simp[grow,Laid.n]
theorem A2w(w:World)(g:Laid):Below w.heap.size w (grow w g):=⟨rfl,rfl,rfl,by rw[grow_size];omega,fun k hk=>grow_heap w g k hk⟩
@[go_sem] theorem grow_drew(w:World)(g:Laid):grow w.drew g=grow w g:=rfl
@[go_sem] theorem grow_drewN(w:World)(n:Nat)(g:Laid):grow (w.drewN n) g=grow w g:=rfl
theorem A0s(w:World)(b:Nat)(cs:Array Value)(t:TypeId)(h:b<w.heap.size):(putRow w b cs t).heap[b]?=some (.cells cs t (0,0)):=by
 show (w.heap.setIfInBounds b _)[b]?=_
 rw[A4O h]
@[go_sem] theorem put_cell_same(w:World)(b i:Nat)(cs:Array Value)(t:TypeId)(h:b<w.heap.size):(putRow w b cs t).cell? ⟨b,i,none⟩=cs[i]?:=cell_of_row _ b i cs t _ (A0s w b cs t h)
@[go_sem] theorem put_frozen_same(w:World)(b i:Nat)(cs:Array Value)(t:TypeId)(h:b<w.heap.size):(putRow w b cs t).frozen? ⟨b,i,none⟩=false:=frozen_of_row _ b i cs t (A0s w b cs t h)
@[go_sem] theorem put_drew(w:World)(b:Nat)(cs:Array Value)(t:TypeId):putRow w.drew b cs t=(putRow w b cs t).drew:=rfl
@[go_sem] theorem put_drewN(w:World)(n b:Nat)(cs:Array Value)(t:TypeId):putRow (w.drewN n) b cs t=(putRow w b cs t).drewN n:=rfl
@[go_sem] theorem A1d(w:World)(b:Nat)(cs cs':Array Value)(t:TypeId):(putRow w b cs t).setRow b cs'=putRow w b cs' t:=by
 unfold World.setRow putRow
 simp only
 congr 1
 apply A4N
 intro k
 simp only[Array.getElem?_modify]
 by_cases hk:b=k
 ·subst hk
  rw[if_pos rfl]
  by_cases hb:b<w.heap.size
  ·rw[A4O hb,A4O hb];rfl
  ·rw[A4v E6,A4v E6];rfl
 ·rw[if_neg hk,A4r hk,A4r hk]
@[go_sem] theorem put_setCell_same(w:World)(b i:Nat)(cs:Array Value)(t:TypeId)(v:Value)(h:b<w.heap.size):(putRow w b cs t).setCell ⟨b,i,none⟩ v=putRow w b (cs.setIfInBounds i v) t:=by
 rw[setCell_eq_setRow _ b i cs t (0,0) v (A0s w b cs t h),A1d]
theorem A3f{w:World}{b:Nat}{cs:Array Value}{t:TypeId}(h:blk w b=some (.cells cs t (0,0))):w=putRow w b cs t:=by
 have h':w.heap[b]?=some (.cells cs t (0,0)):=h
 cases w with
 | mk heap tape drawn os output =>
  unfold putRow
  congr 1
  apply A4N
  intro k
  by_cases hk:b=k
  ·subst hk
   simp only at h'
   rw[A4O (A3y.1 h').1,h']
  ·rw[A4r hk]
theorem St.grow{w0 w:World}{L:List (Nat × Array Value × TypeId)}(h:St w0 w L)(g:Laid):St w0 (Go.Proofs.YtlfbfbbdpcihfaaGreat.grow w g) L:=h.call (A2w w g)
theorem T4{w:World}{b:Nat}{cs:Array Value}{t:TypeId}(h:blk w b=some (.cells cs t (0,0)))(cs':Array Value):putRow w b cs' t=w.setRow b cs':=by
 conv=>rhs;rw[A3f h]
 rw[A1d]
theorem St.put{w0 w:World}{L:List (Nat × Array Value × TypeId)}(h:St w0 w L)(i:Nat){b:Nat}{cs:Array Value}{t:TypeId}(hi:L[i]?=some (b,cs,t))(cs':Array Value):St w0 (putRow w b cs' t) (L.set i (b,cs',t)):=by
 rw[T4 (h.blk i hi)]
 exact h.setRow i hi cs'
theorem St.ne{w0 w:World}{L:List (Nat × Array Value × TypeId)}(h:St w0 w L)(i j:Nat){b c:Nat}{cs cs':Array Value}{t t':TypeId}(hi:L[i]?=some (b,cs,t))(hj:L[j]?=some (c,cs',t'))(hij:i≠j):¬b=c:=fun e=>by
 have h1:(L.map (·.1))[i]?=some b:=by simp[hi]
 have h2:(L.map (·.1))[j]?=some c:=by simp[hj]
 subst e
 obtain⟨l1,e1⟩:=A3n.1 h1
 obtain⟨l2,e2⟩:=A3n.1 h2
 exact hij ((List.getElem_inj h.2.2).1 (e1.trans e2.symm))
theorem St.lt{w0 w:World}{L:List (Nat × Array Value × TypeId)}(h:St w0 w L)(i:Nat){b:Nat}{cs:Array Value}{t:TypeId}(hi:L[i]?=some (b,cs,t)):b<w.heap.size:=G1 (h.blk i hi)
theorem St.low{w0 w:World}{L:List (Nat × Array Value × TypeId)}(h:St w0 w L)(i:Nat){b:Nat}{cs:Array Value}{t:TypeId}(hi:L[i]?=some (b,cs,t)):w0.heap.size<=b:=(h.2.1 _ (A4d hi)).1
theorem St.erase{w0 w:World}{L:List (Nat × Array Value × TypeId)}(h:St w0 w L)(i:Nat):St w0 w (L.eraseIdx i) :=
 ⟨h.1,fun x hx=>h.2.1 x (A5v hx),h.2.2.sublist ((List.eraseIdx_sublist L i).map _)⟩
theorem St.take{w0 w:World}{L:List (Nat × Array Value × TypeId)}(h:St w0 w L)(n:Nat):St w0 w (L.take n) :=
 ⟨h.1,fun x hx=>h.2.1 x (List.mem_of_mem_take hx),by rw[A5g];exact h.2.2.sublist (List.take_sublist _ _)⟩
end
end
section
open Go.ChangeShapes Go.WideShapes Go.ChangeAt Go.RowKit
def RowsAt(w:World)(s:Nat)(v:Value)(ks:List (List UInt8)):Prop :=
 (∀k∈ks,k.length=s)/\∃p c,v=.slice p ks.length c/\(p=none->c=0)/\∀i k,ks[i]?=some k->∃b o cs t e,p=some ⟨b,o,none⟩/\blk w b=some (.cells cs t e)/\o+i*s+s<=csz cs/\cut cs (o+i*s) s=bvs k
def BytesAt(w:World)(v:Value)(l:List UInt8):Prop :=
 ∃p c,v=.slice p l.length c/\l.length<=c/\(p=none->c=0)/\(l≠[]->∃b o cs t e,p=some ⟨b,o,none⟩/\blk w b=some (.cells cs t e)/\∀i x,l[i]?=some x->cs[o+i]?=some (bv x))
theorem RowsAt.below{w w':World}{s:Nat}{v:Value}{ks:List (List UInt8)}(h:RowsAt w s v ks)(hb:Below w.heap.size w w'):RowsAt w' s v ks:=by
 obtain⟨h1,p,c,h2,h0,h3⟩:=h
 refine⟨h1,p,c,h2,h0,fun i k hi=>?_⟩
 obtain⟨b,o,cs,t,e,h4,h5,h6⟩:=h3 i k hi
 exact⟨b,o,cs,t,e,h4,(hb.block b (G1 h5)).trans h5,h6⟩
theorem BytesAt.below{w w':World}{v:Value}{l:List UInt8}(h:BytesAt w v l)(hb:Below w.heap.size w w'):BytesAt w' v l:=by
 obtain⟨p,c,h2,h1,h0,h3⟩:=h
 refine⟨p,c,h2,h1,h0,fun hne=>?_⟩
 obtain⟨b,o,cs,t,e,h4,h5,h6⟩:=h3 hne
 exact⟨b,o,cs,t,e,h4,(hb.block b (G1 h5)).trans h5,h6⟩
theorem blk_of_cell{w:World}{a:Addr}{v:Value}(h:w.cell? a=some v):∃b o cs t e,a=⟨b,o,none⟩/\blk w b=some (.cells cs t e)/\cs[o]?=some v:=by
 unfold World.cell? at h
 cases ho:w.heap[a.block]? with
 | none=>simp[ho] at h
 | some o =>
  cases o with
  | cells c t fr =>
   simp only[ho] at h
   obtain⟨b,o,sp⟩:=a
   cases sp with
   | some s=>simp at h
   | none=>exact⟨b,o,c,t,fr,rfl,ho,by simpa using h⟩
  | _=>simp[ho] at h
theorem A0l(b o j:Nat):(⟨b,o,none⟩:Addr).add j=⟨b,o+j,none⟩:=by
 unfold Addr.add
 split<;>simp_all
theorem H5(cs:Array Value):csz cs=cs.size:=by unfold csz;rfl
theorem cut_of_cells{cs:Array Value}{o n:Nat}{l:List UInt8}(hl:l.length=n)(hn:0<n)(h:∀i x,l[i]?=some x->cs[o+i]?=some (bv x)):o+n<=csz cs/\cut cs o n=bvs l:=by
 have hs:o+n<=cs.size:=by
  have h1:=h (n - 1) (l.getD (n - 1) 0) (by simp[show n - 1<l.length by omega])
  have:=(A3y.1 h1).1
  omega
 refine⟨by rw[H5];exact hs,?_⟩
 have key:cs.extract o (o+n)=bvs l:=by
  apply A4N
  intro i
  rw[bvs_getElem?]
  by_cases hi:i<n
  ·have hx:l[i]?=some l[i]:=A3p E9
   rw[Array.getElem?_extract,hx]
   simp only[A4I]
   rw[if_pos E9]
   exact h i _ hx
  ·rw[A4v E6,A4C E9];rfl
 unfold cut
 split
 ·rename_i hc
  obtain⟨rfl,hc⟩:=hc
  rw[H5] at hc
  rw[<-key]
  simp[<-hc]
 ·exact key
theorem open_bytes{P:Program}{H:Type}{enc:TypeId × Value->H}{w:World}{base:Nat}{sp:Nat->Bool}{held:Bool}{t e:Nat}{v:Value}{d:DataW H}{p:List MemPlace}
  (ht:P.underlying t=some (.slice e))(he:P.underlying e=some (.int .u8))(hc:P.cellsOf e=1)(hv:∃a len cap,v=.slice a len cap)(hr:DataW.Trod enc P w base sp held t v d p) :
  ∃l,BytesAt w v l/\l.length<=maxLen:=by
 obtain⟨a0,len0,cap0,rfl⟩:=hv
 obtain⟨fuel,hf⟩:=hr
 rcases Go.Deep.open_slice1 ht hc hf with⟨hcs,_⟩|⟨a,len,cap,m,n2,V,D,Pl,hcs,_,hlc,hcm,hm,_,hx⟩
 ·simp only[Value.cells,List.cons.injEq,Value.slice.injEq,and_true] at hcs
  obtain⟨rfl,rfl,rfl⟩:=hcs
  exact⟨[],⟨none,0,rfl,A3t _,fun _=>rfl,fun h=>absurd rfl h⟩,by simp⟩
 ·simp only[Value.cells,List.cons.injEq,Value.slice.injEq,and_true] at hcs
  obtain⟨rfl,rfl,rfl⟩:=hcs
  have hlm:len0<=m:=by rw[hm];split<;>omega
  have key:∀i,i<len0->∃x:UInt8,w.cell? (a.add i)=some (bv x):=by
   intro i hi
   obtain⟨h1,h2⟩:=hx i E9
   obtain⟨x,e4,_,wf⟩:=DataW.trod_int he h2
   simp at e4
   have q1:IntKind.u8.min=0:=rfl
   have q2:IntKind.u8.max=255:=rfl
   simp only[Lit.wf,A3A,decide_eq_true_eq] at wf
   refine⟨UInt8.ofNat x.toNat,?_⟩
   rw[h1,e4]
   simp only[bv]
   have:((UInt8.ofNat x.toNat).toNat:Int)=x:=by simp;omega
   rw[this]
  refine⟨(List.range len0).map fun i=>if hi:i<len0 then (key i hi).choose else 0,⟨some a,cap0,by simp,by simp;omega,(fun h=>by cases h),fun hne=>?_⟩,by simp;omega⟩
  have h0:0<len0:=by
   rcases Nat.eq_zero_or_pos len0 with rfl|h
   ·exact absurd rfl hne
   ·exact h
  obtain⟨x0,hk0⟩:=key 0 h0
  rw[show a.add 0=a by simp[Addr.add]] at hk0
  obtain⟨b,o,cs,t2,e2,rfl,hb,_⟩:=blk_of_cell hk0
  refine⟨b,o,cs,t2,e2,rfl,hb,fun i x hi=>?_⟩
  have hil:i<len0:=by have:=(A3n.1 hi).1;simpa using this
  have hk:x=(key i hil).choose:=by
   simp[hil] at hi
   exact hi.symm
  have h2:=(key i hil).choose_spec
  rw[<-hk,A0l,cell_of_row w b (o+i) cs t2 e2 hb] at h2
  exact h2
end
end Go.Proofs.YtlfbfbbdpcihfaaGreat
