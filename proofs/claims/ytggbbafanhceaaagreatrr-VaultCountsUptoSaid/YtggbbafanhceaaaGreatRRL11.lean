/-
  Laws that the claims of this seat use, of several texts in one. No condition of their own.
-/
import Derived.Test.YtggbbafanhceaaaGreatRRL10
set_option maxRecDepth 100000
set_option maxHeartbeats 8000000
set_option linter.all false
namespace Go.Proofs.YtggbbafanhceaaaGreatRR
section
open Go.RowKit
def roundEndO(I:List (Nat × Obj)→Prop)(Ix:Code→List (Nat × Obj)→Prop)(L0:List (Nat × Obj))(W0:World):Exit→Act→World→Prop
 | .normal,_,W=>∃L,Rd L0 W0 L W∧I L
 | .ret,_,W=>∃L,Rd L0 W0 L W∧Ix .ret L
 | .exit id,_,W=>∃L,Rd L0 W0 L W∧Ix (.exit id) L
 | .goto t,_,W=>∃L,Rd L0 W0 L W∧Ix (.goto t) L
 | .panic _,_,_=>False
 | .outgrown,_,_=>False
theorem A3D{E0 E:List (Nat × Obj)}{L0 L:List (Nat × Obj)}{w W1 W:World}(hb:Below w.heap.size w W1)(hk:E.map (·.1)=E0.map (·.1))(hE:∀x∈E0,w.heap.size≤x.1)(h:Rd (E0++L0) W1 (E++L) W):Rd L0 w L W:=by
 have hnd:=h.holds.2
 rw[A4N,A6p] at hnd
 have hs:=hb.size
 refine⟨⟨fun x hx=>h.holds.1 x (A4X _ hx),hnd.2.1⟩,⟨h.kept.os.trans hb.os,h.kept.tape.trans hb.tape,h.kept.output.trans hb.output,A4T hs h.kept.size,fun k hk2 hn=>?_⟩,fun x hx=>?_⟩
 ·refine(h.kept.block k H6 (fun hm=>?_)).trans (hb.block k hk2)
  rw[A4N,A5c] at hm
  rcases hm with hm|hm
  ·obtain⟨y,hy,rfl⟩:=A4I.1 hm
   have:=hE y hy;omega
  ·exact hn hm
 ·rcases h.fresh x (A4X _ hx) with h1|h1
  ·rw[A4N,A5c] at h1
   rcases h1 with h1|h1
   ·rw[←hk] at h1
    exact(hnd.2.2 _ h1 _ (A4I.2 ⟨x,hx,rfl⟩) rfl).elim
   ·exact .inl h1
  ·exact .inr H6
theorem wp_rangeO{P:Program}{g:Operand}{ps:Array Tmp}{assign body:Code}{Q:Exit→Act→World→Prop}{a:Act}{w:World}
  {gf:Nat}{lb:Array Value}(hg:a.eval g=.func (.func gf) #[] lb)(eg:∀args w,(callFunc gf args).run P w=.ok (.enter gf args) w)
  {els:Nat→Array Value}{N:Option Nat}{R:List Nat}{W0:World}(hit:IterAt P gf lb els N R W0)(hb0:Below W0.heap.size W0 w)(hps:∀k,(els k).size=ps.size)
  (I:Nat→List (Nat × Obj)→Prop)(Ix:Code→List (Nat × Obj)→Prop)(M:Nat)(hM:N=none→∀k L,I k L→k<M)
  (L0:List (Nat × Obj))(h0:I 0 L0)(hH:Holds w (L0))(hR:∀b∈R,b<w.heap.size∧b∉L0.map (·.1))(a₁:Nat→Act)
  (hassign:∀(l k:Nat)(W:World)(K:Act→World→Prop),K (a₁ k) W →
   assign.wpIn (Fence.wide.inRound l) 0 P (Exit.then K (fun _ _ _=>False)) { tmps:=(ps.zip (els k)).foldl (fun t (p,v)=>t.setIfInBounds p v) a.tmps,defers:=[] } W)
  (hbody:∀(l k:Nat)(L:List (Nat × Obj))(W:World),I k L→Rd L0 w L W→(∀n,N=some n→k<n)→body.wpIn (Fence.wide.inRound l) 0 P (roundEndO (I (k+1)) Ix L W) (a₁ k) W)
  (hdone:∀(D n:Nat)(L:List (Nat × Obj))(W:World),N=some n→I n L→Rd L0 w L W→W.heap[D]?=some (.deferred (some []))→w.heap.size≤D→D∉L.map (·.1)→Q .normal { a with defers:={ target:=.collected D,args:=#[] }::a.defers } W)
  (hstop:∀(D:Nat)(c:Code)(L:List (Nat × Obj))(W:World),Ix c L→Rd L0 w L W→W.heap[D]?=some (.deferred (some []))→w.heap.size≤D→D∉L.map (·.1)→c.wp P Q { a with defers:={ target:=.collected D,args:=#[] }::a.defers } W) :
  (Code.rangeFunc g ps assign body).wp P Q a w:=by
 refine(wpIn_wide (n:=0)).1 (wpIn_rangeFunc ?_)
 intro fn hfn
 obtain⟨rec,hrec⟩:∃rec:LoopState→Option Code→Loop,rec=fun st pe=>{ state:=st,pending:=pe,fn,tmps:=a.tmps,params:=ps,assign,body,defers:=w.heap.size }:=⟨_,rfl⟩
 obtain⟨W1,hW1⟩:∃W1,(w.alloc (.deferred (some []))).alloc (.loop (rec .ready none))=W1:=⟨_,rfl⟩
 have hL1:W1.heap[w.heap.size+1]?=some (.loop (rec .ready none)):=by
  rw[←hW1];have:=World.alloc_heap_new (w.alloc (.deferred (some []))) (.loop (rec .ready none));rwa [World.size_alloc] at this
 have hK1:W1.heap[w.heap.size]?=some (.deferred (some [])):=by
  rw[←hW1];exact(Below.heap_alloc _ _ _ H7).trans (World.alloc_heap_new w _)
 have hbW:Below w.heap.size w W1:=by rw[←hW1];exact((Below.refl _ w).alloc (A4C _) _).alloc H7 _
 have hb1:Below W0.heap.size W0 W1:=hb0.trans (hbW.mono hb0.size)
 have hHk:Holds W1 (L0):=hH.kept (B:=[]) (Kept.of_below hbW) (fun _ _=>A5b)
 have hn1:∀m,w.heap.size≤m→m∉L0.map (·.1):=fun m hm0 hm=>by
  obtain⟨x,hx,he⟩:=A4I.1 hm
  have:=hH.lt hx;omega
 have hF0:Holds W1 ([(w.heap.size+1,.loop (rec .ready none)),(w.heap.size,.deferred (some []))]++L0):=by
  refine⟨fun x hx=>?_,?_⟩
  ·simp only[A4K,A4x,A4O] at hx
   rcases hx with rfl|rfl|hx
   ·exact hL1
   ·exact hK1
   ·exact hHk.1 x hx
  ·have:=hH.2
   simp only[A4K,A4x,A5f,A5o,A4O,not_or]
   exact⟨⟨by omega,hn1 _ H6⟩,hn1 _ (A4C _),this⟩
 have hE0:∀x∈[(w.heap.size+1,Obj.loop (rec .ready none)),(w.heap.size,.deferred (some []))],w.heap.size≤x.1:=by
  intro x hx
  simp only[A4O,A5b,or_false] at hx
  rcases hx with rfl|rfl
  ·exact Nat.le_succ _
  ·exact A4C _
 refine⟨w.heap.size+1,[{ target:=.collected w.heap.size,args:=#[] }],W1,{ target:=.fn (.func gf) lb,args:=#[.func (.yield (w.heap.size+1)) #[] #[]] },W1,gf,
  #[.func (.yield (w.heap.size+1)) #[] #[]]++lb,W1,?_,?_,fun _ _=>trivial,?_,(fun h=>by cases h),?_⟩
 ·rw[←hW1,hrec];exact run_enterLoop_outer _ _ _ _ _
 ·simp only[resolve,hg]
  simp[go_sem]
 ·simp[invoke,go_sem,eg]
 ·refine callsIn_wide.2 ?_
  refine(hit (w.heap.size+1)
   (fun k L'=>∃L,L'=[(w.heap.size+1,.loop (rec .ready none)),(w.heap.size,.deferred (some []))]++L∧I k L)
   (fun L'=>∃L c,L'=[(w.heap.size+1,.loop (rec .done (some c))),(w.heap.size,.deferred (some []))]++L∧Ix c L)
   M W1 ([(w.heap.size+1,.loop (rec .ready none)),(w.heap.size,.deferred (some []))]++L0) hb1 ?_ ?_ ⟨L0,rfl,h0⟩ hF0 ?_).mono ?_
  ·intro b hb
   obtain⟨h1,h2⟩:=hR b hb
   simp only[A4K,A4x,A5f,A4O,not_or]
   exact⟨by omega,by omega,h2⟩
  ·rintro hN k L' ⟨L,_,hI⟩;exact hM hN k L hI
  · -- ONE ROUND
   rintro k L' W ⟨L,rfl,hI⟩ hRd hkn
   have hl:W.heap[w.heap.size+1]?=some (.loop (rec .ready none)):=hRd.holds.1 _ (A4t ..)
   have hy:=run_yield (P:=P) (args:=els k) hl (by rw[hrec];exact hps k)
   rw[hrec] at hy
   refine⟨fn,_,assign,body,hy,roundIn_of_wpIn hfn (hassign _ k W _ ⟨_,run_beginRound hl (by rw[hrec]),?_⟩)⟩
   have hRd2:=Rd.put (L:=(w.heap.size,.deferred (some []))::L) hRd (.loop { rec .ready none with state:=.busy })
   have hs2:=Rd.put (L:=(w.heap.size,.deferred (some []))::L) (Rd.refl hRd.holds) (.loop { rec .ready none with state:=.busy })
   generalize W.putObj (w.heap.size+1) (.loop { rec .ready none with state:=.busy })=W2 at *
   have hIn:Rd L0 w L W2:=A3D (E0:=[(w.heap.size+1,.loop (rec .ready none)),(w.heap.size,.deferred (some []))]) (E:=[(w.heap.size+1,.loop { rec .ready none with state:=.busy }),(w.heap.size,.deferred (some []))]) hbW rfl hE0 hRd2
   refine wpIn_mono (hbody _ k L W2 hI hIn hkn) ?_
   have fin:∀(jump:Option Code)(L2:List (Nat × Obj))(W3:World),Rd L W2 L2 W3 →
     ∃W4,(Instr.endRound (w.heap.size+1) jump).run P W3=.ok (.bool jump.isNone) W4 ∧
      Rd ([(w.heap.size+1,.loop (rec .ready none)),(w.heap.size,.deferred (some []))]++L) W ([(w.heap.size+1,.loop (rec (if jump.isNone then .ready else .done) jump)),(w.heap.size,.deferred (some []))]++L2) W4:=fun jump L2 W3 h3=>by
    have hf:=Rd.frame (E:=[(w.heap.size+1,.loop { rec .ready none with state:=.busy }),(w.heap.size,.deferred (some []))]) h3 hRd2.holds
    have hl3:W3.heap[w.heap.size+1]?=some (.loop { rec .ready none with state:=.busy }):=hf.holds.1 _ (A4t ..)
    have hr:=run_endRound (P:=P) jump hl3
    refine⟨_,hr,?_⟩
    have h5:=Rd.put (L:=(w.heap.size,.deferred (some []))::L2) (hs2.trans hf) (.loop (rec (if jump.isNone then .ready else .done) jump))
    rw[hrec] at h5 ⊢
    exact h5
   rintro e a3 W3 hp
   cases e with
   | normal =>
    obtain⟨L2,h3,hi3⟩:=hp
    obtain⟨W4,hr,h4⟩:=fin none L2 W3 h3
    exact⟨_,_,hr,_,h4,.inl ⟨rfl,L2,rfl,hi3⟩⟩
   | ret =>
    obtain⟨L2,h3,hi3⟩:=hp
    obtain⟨W4,hr,h4⟩:=fin (some .ret) L2 W3 h3
    exact⟨_,_,hr,_,h4,.inr ⟨rfl,L2,.ret,rfl,hi3⟩⟩
   | exit id =>
    obtain⟨L2,h3,hi3⟩:=hp
    obtain⟨W4,hr,h4⟩:=fin (some (.exit id)) L2 W3 h3
    exact⟨_,_,hr,_,h4,.inr ⟨rfl,L2,.exit id,rfl,hi3⟩⟩
   | goto t =>
    obtain⟨L2,h3,hi3⟩:=hp
    obtain⟨W4,hr,h4⟩:=fin (some (.goto t)) L2 W3 h3
    exact⟨_,_,hr,_,h4,.inr ⟨rfl,L2,.goto t,rfl,hi3⟩⟩
   | panic ch=>exact hp.elim
   | outgrown=>exact hp.elim
  · -- BEHIND THE ITERATOR
   rintro e W2 ⟨⟨v,rfl⟩,L',hRd,(⟨n,hN,L,rfl,hI⟩|⟨L,c,rfl,hI⟩)⟩
   ·have hl:W2.heap[w.heap.size+1]?=some (.loop (rec .ready none)):=hRd.holds.1 _ (A4t ..)
    have hr:=run_endLoop (P:=P) hl (by rw[hrec];simp)
    have hR2:=Rd.put (L:=(w.heap.size,.deferred (some []))::L) hRd (.loop (rec .exhausted (none)))
    rw[show ({ rec .ready none with state:=.exhausted }:Loop)=rec .exhausted (none) by rw[hrec],show (rec .ready none).pending=none by rw[hrec]] at hr
    refine⟨none,_,hr,?_⟩
    have hnd:=hR2.holds.2
    simp only[A5f,A5o] at hnd
    exact hdone w.heap.size n L _ hN hI (A3D (E0:=[(w.heap.size+1,.loop (rec .ready none)),(w.heap.size,.deferred (some []))]) (E:=[(w.heap.size+1,.loop (rec .exhausted (none))),(w.heap.size,.deferred (some []))]) hbW rfl hE0 hR2) (hR2.holds.1 _ (A4A _ (A4t ..))) (A4C _) hnd.2.1
   ·have hl:W2.heap[w.heap.size+1]?=some (.loop (rec .done (some c))):=hRd.holds.1 _ (A4t ..)
    have hr:=run_endLoop (P:=P) hl (by rw[hrec];simp)
    have hR2:=Rd.put (L:=(w.heap.size,.deferred (some []))::L) hRd (.loop (rec .exhausted (some c)))
    rw[show ({ rec .done (some c) with state:=.exhausted }:Loop)=rec .exhausted (some c) by rw[hrec],show (rec .done (some c)).pending=some c by rw[hrec]] at hr
    refine⟨some c,_,hr,?_⟩
    have hnd:=hR2.holds.2
    simp only[A5f,A5o] at hnd
    exact(wpIn_wide (n:=0)).2 (hstop w.heap.size c L _ hI (A3D (E0:=[(w.heap.size+1,.loop (rec .ready none)),(w.heap.size,.deferred (some []))]) (E:=[(w.heap.size+1,.loop (rec .exhausted (some c))),(w.heap.size,.deferred (some []))]) hbW rfl hE0 hR2) (hR2.holds.1 _ (A4A _ (A4t ..))) (A4C _) hnd.2.1)
theorem Rd.newObj{L0 L:List (Nat × Obj)}{W W1:World}(h:Rd L0 W L W1){D:Nat}(hb:W.heap.size≤D)(hn:D∉L.map (·.1))(o:Obj):Rd L0 W L (W1.putObj D o):=by
 refine⟨⟨fun x hx=>?_,h.holds.2⟩,⟨h.kept.os,h.kept.tape,h.kept.output,by have:=h.kept.size;simpa using this,fun k hk hn2=>?_⟩,h.fresh⟩
 ·exact(World.putObj_heap_other (fun e=>hn (by rw[←e];exact A4I.2 ⟨x,hx,rfl⟩))).trans (h.holds.1 x hx)
 ·exact(World.putObj_heap_other H6).trans (h.kept.block k hk hn2)
theorem Holds.newer{W:World}{L:List (Nat × Obj)}(h:Holds W L){b:Nat}(hb:W.heap.size≤b):b∉L.map (·.1):=fun hm=>by
 obtain⟨x,hx,he⟩:=A4I.1 hm
 have:=h.lt hx
 omega
end
section
open Go.RowKit
attribute [local irreducible] wpList wpListIn
section
variable{P:Program}{ops:Array Oper}{o:Oper}{rest:List Oper}{a:Act}{w:World}{v:Value}
theorem r_slice3{t:TypeId}{x lo hi mx:Operand}{b off n c m q n' c':Nat}{k1 k2 k3:IntKind}{l h u:Int}(hop:o.op=.slice t x (some lo) (some hi) (some mx))(hx:evO a x=some (.slice (some ⟨b,off,none⟩) n c))(hm:ElT P t m)(hl:evO a lo=some (.int k1 l))(hh:evO a hi=some (.int k2 h))(hu:evO a mx=some (.int k3 u))
  (h0:0≤l∧l≤h∧h≤u∧u≤(c:Int)∧l<u)(hq:off+l.toNat*m=q)(hn:h.toNat - l.toNat=n')(hc:u.toNat - l.toNat=c'):(execOp a.eval o).run P w=.ok (.value (.slice (some ⟨b,q,none⟩) n' c')) w:=by
 obtain⟨e,hu2,hs⟩:=elT_iff hm.is
 unfold execOp;rw[hop]
 have b1:=S9 (P:=P) (w:=w) (k:=k3) (i:=u) (y:=c) (c:=.slice3Acap) H6
 have b2:=S9 (P:=P) (w:=w) (k:=k2) (i:=h) (y:=u.toNat) (c:=.slice3B) H6
 have b3:=S9 (P:=P) (w:=w) (k:=k1) (i:=l) (y:=h.toNat) (c:=.slice3C) H6
 have hne:¬u.toNat=l.toNat:=by omega
 simp only[A5J,I3 hx,I3 hl,I3 hh,I3 hu,Instr.sliceAt,Instr.slice,Instr.sliceBounds,Sem.run_bind,run_underlying hu2,Result.andThen_ok,if_true,Option.isSome_some,b1,b2,b3,N4 hs,Sem.run_pure,if_neg hne,hn,hc]
 subst hq
 simp[U0]
theorem run_min2(ts:Array TypeId)(t:TypeId)(k k':IntKind)(x y:Int):(Builtin.min_ ts t #[.int k x,.int k' y]).run P w=.ok (.int k (min x y)) w:=by
 have e:(if y<x then y else x)=min x y:=by
  rw[Int.min_def]
  split<;>split<;>omega
 simp[Builtin.min_,Builtin.min2,e]
theorem r_min{x y:Operand}{ts:Array TypeId}{k k':IntKind}{m n q:Int}(hop:o.op=.call { callee:=.builtin .min,args:=#[x,y],argTypes:=ts })(hx:evO a x=some (.int k m))(hy:evO a y=some (.int k' n))(hq:min m n=q):(execOp a.eval o).run P w=.ok (.value (.int k q)) w:=by
 unfold execOp;rw[hop]
 subst hq
 simp[I3 hx,I3 hy,resolve,invoke,builtin,run_min2]
theorem r_arrAt{t e m n c:Nat}{x:Operand}{p:Option Addr}(hop:o.op=.sliceToArrayPointer t x)(hx:evO a x=some (.slice p n c))(hu:P.underlying t=some (.array m e))(hmn:m≤n):(execOp a.eval o).run P w=.ok (.value (.pointer p)) w:=by
 unfold execOp;rw[hop]
 have hlt:¬n<m:=by omega
 simp[I3 hx,Instr.arrayAt,Sem.run_bind,run_underlying hu,hlt]
end
theorem YieldAt.inRound{P:Program}{l lp:Nat}{args:Array Value}{w:World}{R:Ending→World→Prop}(h:YieldAt Fence.wide 0 P l args w R):YieldAt (Fence.wide.inRound lp) 0 P l args w R:=h
theorem s_yieldR{P:Program}{ops:Array Oper}{Q:Exit→Act→World→Prop}{o:Oper}{rest:List Oper}{a:Act}{w:World}{x:Operand}{xs:Array Operand}{ts:Array TypeId}{l lp:Nat}{vs:List Value}{args:Array Value}{R:Ending→World→Prop}
  (hw:Region.wanted o (yielded ops a.tmps)=true)(hop:o.op=.call { callee:=.value x,args:=xs,argTypes:=ts })(hx:evO a x=some (.func (.yield l) #[] #[]))(hxs:evs a xs.toList=some vs)(hA:vs.toArray=args)(hY:YieldAt Fence.wide 0 P l args w R)
  (hk:∀e w',R e w'→∃v,e=.returned v∧wpListIn (Fence.wide.inRound lp) 0 P ops Q rest (a.put o.dst v) w'):wpListIn (Fence.wide.inRound lp) 0 P ops Q (o::rest) a w:=by
 obtain⟨fn,tmps,assign,body,hy,hRo⟩:=YieldAt.inRound (lp:=lp) hY
 have hr:(execOp a.eval o).run P w=.ok (.round l fn tmps assign body) w:=by
  unfold execOp;rw[hop]
  have e1:xs.map a.eval=args:=by
   have:=A0w hxs
   rw[←hA]
   apply Array.ext'
   simp[this]
  have e2 : #[]++xs.map a.eval=args:=by rw[e1];apply Array.ext';simp
  simp only[resolve,I3 hx,Deferred.ofValue,Sem.run_bind,Sem.run_pure,Result.andThen_ok,invoke,e2,hy]
 unfold wpListIn
 rw[if_pos hw]
 unfold Oper.wpIn
 refine⟨fun _ _=>trivial,?_⟩
 rw[Oper.semAt_plain _ _ _ (by rw[hop];intro c hc;cases hc),hr,Oper.uponIn_round]
 refine⟨fun h=>(by cases h),?_⟩
 refine hRo.mono ?_
 intro e w' hR
 obtain⟨v,rfl,h⟩:=hk e w' hR
 exact h
end
section
open Go.RowKit
section
theorem wp_range2{P:Program}{g:Operand}{ps:Array Tmp}{assign body:Code}{Q:Exit→Act→World→Prop}{a:Act}{w:World}
  {gf:Nat}{lb:Array Value}(hg:a.eval g=.func (.func gf) #[] lb)(eg:∀args w,(callFunc gf args).run P w=.ok (.enter gf args) w)
  {els:Nat→Array Value}{N:Option Nat}{R:List Nat}{W0:World}(hit:IterAt P gf lb els N R W0)(hb0:Below W0.heap.size W0 w)(hps:∀k,(els k).size=ps.size)
  (I:Nat→List (Nat × Array Value × TypeId)→Prop)(Ix:Code→List (Nat × Array Value × TypeId)→Prop)(M:Nat)(hM:N=none→∀k L,I k L→k<M)
  (L0:List (Nat × Array Value × TypeId))(h0:I 0 L0)(hH:Holds w (objs L0))(hR:∀b∈R,b<w.heap.size∧b∉L0.map (·.1))(A:Nat→List (Nat × Array Value × TypeId)→List (Nat × Array Value × TypeId)→Act→Prop)
  (hassign:∀(l k:Nat)(L:List (Nat × Array Value × TypeId))(W:World),I k L→In L0 w L W→∀K:Act→World→Prop,(∀a1 L' W',In L W L' W'→A k L L' a1→K a1 W') →
   assign.wpIn (Fence.wide.inRound l) 0 P (Exit.then K (fun _ _ _=>False)) { tmps:=(ps.zip (els k)).foldl (fun t (p,v)=>t.setIfInBounds p v) a.tmps,defers:=[] } W)
  (hbody:∀(l k:Nat)(L L':List (Nat × Array Value × TypeId))(a1:Act)(W:World),I k L→A k L L' a1→In L0 w L' W→(∀n,N=some n→k<n)→body.wpIn (Fence.wide.inRound l) 0 P (roundEnd (I (k+1)) Ix L' W) a1 W)
  (hdone:∀(D n:Nat)(L:List (Nat × Array Value × TypeId))(W:World),N=some n→I n L→In L0 w L W→W.heap[D]?=some (.deferred (some []))→w.heap.size≤D→Q .normal { a with defers:={ target:=.collected D,args:=#[] }::a.defers } W)
  (hstop:∀(D:Nat)(c:Code)(L:List (Nat × Array Value × TypeId))(W:World),Ix c L→In L0 w L W→W.heap[D]?=some (.deferred (some []))→w.heap.size≤D→c.wp P Q { a with defers:={ target:=.collected D,args:=#[] }::a.defers } W) :
  (Code.rangeFunc g ps assign body).wp P Q a w:=by
 refine(wpIn_wide (n:=0)).1 (wpIn_rangeFunc ?_)
 intro fn hfn
 obtain⟨rec,hrec⟩:∃rec:LoopState→Option Code→Loop,rec=fun st pe=>{ state:=st,pending:=pe,fn,tmps:=a.tmps,params:=ps,assign,body,defers:=w.heap.size }:=⟨_,rfl⟩
 obtain⟨W1,hW1⟩:∃W1,(w.alloc (.deferred (some []))).alloc (.loop (rec .ready none))=W1:=⟨_,rfl⟩
 have hL1:W1.heap[w.heap.size+1]?=some (.loop (rec .ready none)):=by
  rw[←hW1];have:=World.alloc_heap_new (w.alloc (.deferred (some []))) (.loop (rec .ready none));rwa [World.size_alloc] at this
 have hK1:W1.heap[w.heap.size]?=some (.deferred (some [])):=by
  rw[←hW1];exact(Below.heap_alloc _ _ _ H7).trans (World.alloc_heap_new w _)
 have hbW:Below w.heap.size w W1:=by rw[←hW1];exact((Below.refl _ w).alloc (A4C _) _).alloc H7 _
 have hb1:Below W0.heap.size W0 W1:=hb0.trans (hbW.mono hb0.size)
 have hHk:Holds W1 (objs L0):=hH.kept (B:=[]) (Kept.of_below hbW) (fun _ _=>A5b)
 have hn1:∀m,w.heap.size≤m→m∉L0.map (·.1):=fun m hm0 hm=>by
  rw[←K5] at hm
  obtain⟨x,hx,he⟩:=A4I.1 hm
  have:=hH.lt hx;omega
 have hF0:Holds W1 ([(w.heap.size+1,.loop (rec .ready none)),(w.heap.size,.deferred (some []))]++objs L0):=by
  refine⟨fun x hx=>?_,?_⟩
  ·simp only[A4K,A4x,A4O] at hx
   rcases hx with rfl|rfl|hx
   ·exact hL1
   ·exact hK1
   ·exact hHk.1 x hx
  ·have:=hH.2
   rw[K5] at this
   simp only[A4K,A4x,A5f,K5,A5o,A4O,not_or]
   exact⟨⟨by omega,hn1 _ H6⟩,hn1 _ (A4C _),this⟩
 have hE0:∀x∈[(w.heap.size+1,Obj.loop (rec .ready none)),(w.heap.size,.deferred (some []))],w.heap.size≤x.1:=by
  intro x hx
  simp only[A4O,A5b,or_false] at hx
  rcases hx with rfl|rfl
  ·exact Nat.le_succ _
  ·exact A4C _
 refine⟨w.heap.size+1,[{ target:=.collected w.heap.size,args:=#[] }],W1,{ target:=.fn (.func gf) lb,args:=#[.func (.yield (w.heap.size+1)) #[] #[]] },W1,gf,
  #[.func (.yield (w.heap.size+1)) #[] #[]]++lb,W1,?_,?_,fun _ _=>trivial,?_,(fun h=>by cases h),?_⟩
 ·rw[←hW1,hrec];exact run_enterLoop_outer _ _ _ _ _
 ·simp only[resolve,hg]
  simp[go_sem]
 ·simp[invoke,go_sem,eg]
 ·refine callsIn_wide.2 ?_
  refine(hit (w.heap.size+1)
   (fun k L'=>∃L,L'=[(w.heap.size+1,.loop (rec .ready none)),(w.heap.size,.deferred (some []))]++objs L∧I k L)
   (fun L'=>∃L c,L'=[(w.heap.size+1,.loop (rec .done (some c))),(w.heap.size,.deferred (some []))]++objs L∧Ix c L)
   M W1 ([(w.heap.size+1,.loop (rec .ready none)),(w.heap.size,.deferred (some []))]++objs L0) hb1 ?_ ?_ ⟨L0,rfl,h0⟩ hF0 ?_).mono ?_
  ·intro b hb
   obtain⟨h1,h2⟩:=hR b hb
   simp only[A4K,A4x,A5f,K5,A4O,not_or]
   exact⟨by omega,by omega,h2⟩
  ·rintro hN k L' ⟨L,_,hI⟩;exact hM hN k L hI
  · -- ONE ROUND
   rintro k L' W ⟨L,rfl,hI⟩ hRd hkn
   have hl:W.heap[w.heap.size+1]?=some (.loop (rec .ready none)):=hRd.holds.1 _ (A4t ..)
   have hy:=run_yield (P:=P) (args:=els k) hl (by rw[hrec];exact hps k)
   rw[hrec] at hy
   have hIn0:In L0 w L W:=Q6 (E0:=[(w.heap.size+1,.loop (rec .ready none)),(w.heap.size,.deferred (some []))]) (E:=[(w.heap.size+1,.loop (rec .ready none)),(w.heap.size,.deferred (some []))]) hbW rfl hE0 hRd
   refine⟨fn,_,assign,body,hy,roundIn_of_wpIn hfn (hassign _ k L W hI hIn0 _ fun a1 L' W' hA hAA=>?_)⟩
   have hfA:=Rd.frame (E:=[(w.heap.size+1,.loop (rec .ready none)),(w.heap.size,.deferred (some []))]) hA.rd hRd.holds
   have hl':W'.heap[w.heap.size+1]?=some (.loop (rec .ready none)):=hfA.holds.1 _ (A4t ..)
   refine⟨_,run_beginRound hl' (by rw[hrec]),?_⟩
   have hRd2:=Rd.put (L:=(w.heap.size,.deferred (some []))::objs L') (hRd.trans hfA) (.loop { rec .ready none with state:=.busy })
   have hs2:=Rd.put (L:=(w.heap.size,.deferred (some []))::objs L') hfA (.loop { rec .ready none with state:=.busy })
   generalize W'.putObj (w.heap.size+1) (.loop { rec .ready none with state:=.busy })=W2 at *
   have hIn:In L0 w L' W2:=Q6 (E0:=[(w.heap.size+1,.loop (rec .ready none)),(w.heap.size,.deferred (some []))]) (E:=[(w.heap.size+1,.loop { rec .ready none with state:=.busy }),(w.heap.size,.deferred (some []))]) hbW rfl hE0 hRd2
   refine wpIn_mono (hbody _ k L L' a1 W2 hI hAA hIn hkn) ?_
   have fin:∀(jump:Option Code)(L2:List (Nat × Array Value × TypeId))(W3:World),In L' W2 L2 W3 →
     ∃W4,(Instr.endRound (w.heap.size+1) jump).run P W3=.ok (.bool jump.isNone) W4 ∧
      Rd ([(w.heap.size+1,.loop (rec .ready none)),(w.heap.size,.deferred (some []))]++objs L) W ([(w.heap.size+1,.loop (rec (if jump.isNone then .ready else .done) jump)),(w.heap.size,.deferred (some []))]++objs L2) W4:=fun jump L2 W3 h3=>by
    have hf:=Rd.frame (E:=[(w.heap.size+1,.loop { rec .ready none with state:=.busy }),(w.heap.size,.deferred (some []))]) h3.rd hRd2.holds
    have hl3:W3.heap[w.heap.size+1]?=some (.loop { rec .ready none with state:=.busy }):=hf.holds.1 _ (A4t ..)
    have hr:=run_endRound (P:=P) jump hl3
    refine⟨_,hr,?_⟩
    have h5:=Rd.put (L:=(w.heap.size,.deferred (some []))::objs L2) (hs2.trans hf) (.loop (rec (if jump.isNone then .ready else .done) jump))
    rw[hrec] at h5 ⊢
    exact h5
   rintro e a3 W3 hp
   cases e with
   | normal =>
    obtain⟨L2,h3,hi3⟩:=hp
    obtain⟨W4,hr,h4⟩:=fin none L2 W3 h3
    exact⟨_,_,hr,_,h4,.inl ⟨rfl,L2,rfl,hi3⟩⟩
   | ret =>
    obtain⟨L2,h3,hi3⟩:=hp
    obtain⟨W4,hr,h4⟩:=fin (some .ret) L2 W3 h3
    exact⟨_,_,hr,_,h4,.inr ⟨rfl,L2,.ret,rfl,hi3⟩⟩
   | exit id =>
    obtain⟨L2,h3,hi3⟩:=hp
    obtain⟨W4,hr,h4⟩:=fin (some (.exit id)) L2 W3 h3
    exact⟨_,_,hr,_,h4,.inr ⟨rfl,L2,.exit id,rfl,hi3⟩⟩
   | goto t =>
    obtain⟨L2,h3,hi3⟩:=hp
    obtain⟨W4,hr,h4⟩:=fin (some (.goto t)) L2 W3 h3
    exact⟨_,_,hr,_,h4,.inr ⟨rfl,L2,.goto t,rfl,hi3⟩⟩
   | panic ch=>exact hp.elim
   | outgrown=>exact hp.elim
  · -- BEHIND THE ITERATOR
   rintro e W2 ⟨⟨v,rfl⟩,L',hRd,(⟨n,hN,L,rfl,hI⟩|⟨L,c,rfl,hI⟩)⟩
   ·have hl:W2.heap[w.heap.size+1]?=some (.loop (rec .ready none)):=hRd.holds.1 _ (A4t ..)
    have hr:=run_endLoop (P:=P) hl (by rw[hrec];simp)
    have hR2:=Rd.put (L:=(w.heap.size,.deferred (some []))::objs L) hRd (.loop (rec .exhausted (none)))
    rw[show ({ rec .ready none with state:=.exhausted }:Loop)=rec .exhausted (none) by rw[hrec],show (rec .ready none).pending=none by rw[hrec]] at hr
    refine⟨none,_,hr,?_⟩
    exact hdone w.heap.size n L _ hN hI (Q6 (E0:=[(w.heap.size+1,.loop (rec .ready none)),(w.heap.size,.deferred (some []))]) (E:=[(w.heap.size+1,.loop (rec .exhausted (none))),(w.heap.size,.deferred (some []))]) hbW rfl hE0 hR2) (hR2.holds.1 _ (A4A _ (A4t ..))) (A4C _)
   ·have hl:W2.heap[w.heap.size+1]?=some (.loop (rec .done (some c))):=hRd.holds.1 _ (A4t ..)
    have hr:=run_endLoop (P:=P) hl (by rw[hrec];simp)
    have hR2:=Rd.put (L:=(w.heap.size,.deferred (some []))::objs L) hRd (.loop (rec .exhausted (some c)))
    rw[show ({ rec .done (some c) with state:=.exhausted }:Loop)=rec .exhausted (some c) by rw[hrec],show (rec .done (some c)).pending=some c by rw[hrec]] at hr
    refine⟨some c,_,hr,?_⟩
    exact(wpIn_wide (n:=0)).2 (hstop w.heap.size c L _ hI (Q6 (E0:=[(w.heap.size+1,.loop (rec .ready none)),(w.heap.size,.deferred (some []))]) (E:=[(w.heap.size+1,.loop (rec .exhausted (some c))),(w.heap.size,.deferred (some []))]) hbW rfl hE0 hR2) (hR2.holds.1 _ (A4A _ (A4t ..))) (A4C _))
theorem A0G{P:Program}{g:Operand}{ps:Array Tmp}{assign body:Code}{Q:Exit→Act→World→Prop}{a:Act}{w:World}
  {gf:Nat}{lb:Array Value}(hg:a.eval g=.func (.func gf) #[] lb)(eg:∀args w,(callFunc gf args).run P w=.ok (.enter gf args) w)
  {els:Nat→Array Value}{N:Option Nat}{R:List Nat}{W0:World}(hit:IterAt P gf lb els N R W0)(hb0:Below W0.heap.size W0 w)(hps:∀k,(els k).size=ps.size)
  (I:Nat→List (Nat × Array Value × TypeId)→Prop)(Ix:Code→List (Nat × Array Value × TypeId)→Prop)(M:Nat)(hM:N=none→∀k L,I k L→k<M)
  (L0:List (Nat × Array Value × TypeId))(h0:I 0 L0)(hH:Holds w (objs L0))(hR:∀b∈R,b<w.heap.size∧b∉L0.map (·.1))(bx:Nat→Array Value)(bt:TypeId)(act1:Nat→Nat→Act)
  (hassign:∀(l k:Nat)(L:List (Nat × Array Value × TypeId))(W:World),I k L→In L0 w L W→∀K:Act→World→Prop,(∀b W',In L W ((b,bx k,bt)::L) W'→K (act1 k b) W') →
   assign.wpIn (Fence.wide.inRound l) 0 P (Exit.then K (fun _ _ _=>False)) { tmps:=(ps.zip (els k)).foldl (fun t (p,v)=>t.setIfInBounds p v) a.tmps,defers:=[] } W)
  (hbody:∀(l k:Nat)(L:List (Nat × Array Value × TypeId))(b:Nat)(W:World),I k L→In L0 w ((b,bx k,bt)::L) W→(∀n,N=some n→k<n)→body.wpIn (Fence.wide.inRound l) 0 P (roundEnd (I (k+1)) Ix ((b,bx k,bt)::L) W) (act1 k b) W)
  (hdone:∀(D n:Nat)(L:List (Nat × Array Value × TypeId))(W:World),N=some n→I n L→In L0 w L W→W.heap[D]?=some (.deferred (some []))→w.heap.size≤D→Q .normal { a with defers:={ target:=.collected D,args:=#[] }::a.defers } W)
  (hstop:∀(D:Nat)(c:Code)(L:List (Nat × Array Value × TypeId))(W:World),Ix c L→In L0 w L W→W.heap[D]?=some (.deferred (some []))→w.heap.size≤D→c.wp P Q { a with defers:={ target:=.collected D,args:=#[] }::a.defers } W) :
  (Code.rangeFunc g ps assign body).wp P Q a w:=by
 refine wp_range2 hg eg hit hb0 hps I Ix M hM L0 h0 hH hR (fun k L L' a=>∃b,L'=(b,bx k,bt)::L∧a=act1 k b) (fun l k L W hI hIn K hK=>hassign l k L W hI hIn K fun b W' hW=>hK _ _ _ hW ⟨b,rfl,rfl⟩) ?_ hdone hstop
 rintro l k L L' a1 W hI ⟨b,rfl,rfl⟩ hIn hN
 exact hbody l k L b W hI hIn hN
end
section
theorem A1b{P:Program}{g:Operand}{ps:Array Tmp}{assign body:Code}{Q:Exit→Act→World→Prop}{a:Act}{w:World}
  {gf:Nat}{lb:Array Value}(hg:a.eval g=.func (.func gf) #[] lb)(eg:∀args w,(callFunc gf args).run P w=.ok (.enter gf args) w)
  {els:Nat→Array Value}{N:Option Nat}{R:List Nat}{W0:World}(hit:IterAt P gf lb els N R W0)(hb0:Below W0.heap.size W0 w)(hps:∀k,(els k).size=ps.size)
  (I:Nat→List Blk→Prop)(Ix:Code→List Blk→Prop)(M:Nat)(hM:N=none→∀k L,I k L→k<M)
  (L0:List Blk)(h0:I 0 L0)(hH:Holds w (objs L0))(hR:∀b∈R,b<w.heap.size∧b∉L0.map (·.1))(act1:Nat→Act)
  (hassign:∀(l k:Nat)(L:List Blk)(W:World),I k L→In L0 w L W→∀K:Act→World→Prop,(∀W',In L W L W'→K (act1 k) W') →
   assign.wpIn (Fence.wide.inRound l) 0 P (Exit.then K (fun _ _ _=>False)) { tmps:=(ps.zip (els k)).foldl (fun t (p,v)=>t.setIfInBounds p v) a.tmps,defers:=[] } W)
  (hbody:∀(l k:Nat)(L:List Blk)(W:World),I k L→In L0 w L W→(∀n,N=some n→k<n)→body.wpIn (Fence.wide.inRound l) 0 P (roundEnd (I (k+1)) Ix L W) (act1 k) W)
  (hdone:∀(D n:Nat)(L:List Blk)(W:World),N=some n→I n L→In L0 w L W→W.heap[D]?=some (.deferred (some []))→w.heap.size≤D→Q .normal { a with defers:={ target:=.collected D,args:=#[] }::a.defers } W)
  (hstop:∀(D:Nat)(c:Code)(L:List Blk)(W:World),Ix c L→In L0 w L W→W.heap[D]?=some (.deferred (some []))→w.heap.size≤D→c.wp P Q { a with defers:={ target:=.collected D,args:=#[] }::a.defers } W) :
  (Code.rangeFunc g ps assign body).wp P Q a w:=by
 refine wp_range2 hg eg hit hb0 hps I Ix M hM L0 h0 hH hR (fun k L L' a=>L'=L∧a=act1 k) (fun l k L W hI hIn K hK=>hassign l k L W hI hIn K fun W' hW=>hK _ _ _ hW ⟨rfl,rfl⟩) ?_ hdone hstop
 rintro l k L L' a1 W hI ⟨rfl,rfl⟩ hIn hN
 exact hbody l k L' W hI hIn hN
theorem In.bytes{w0 w W:World}{L0 L:List Blk}(h:St w0 w L0)(h2:In L0 w L W){v:Value}{l:List UInt8}(hv:BytesAt w0 v l):BytesAt W v l:=hv.below (h.range h2).below
end
end
section
open Go.ChangeShapes Go.WideShapes Go.ChangeAt Go.RowKit
theorem postMR{P:Program}{fn:Func}{R:Ending→World→Prop}{a:Act}{w:World}{e:Exit}{D:Nat}(he:e=.ret∨e=.normal)(hd:a.defers=[{ target:=.collected D,args:=#[] }])(hk:w.heap[D]?=some (.deferred (some [])))
  (h:bodyPost P fn R .ret { a with defers:=[] } (w.putObj D (.deferred none))):bodyPostM Fence.wide 0 P fn R e a w:=by
 obtain⟨_,v,hr,hR⟩:=h
 have key:LeavesInM Fence.wide 0 P fn a.tmps R a.defers .returning w:=by
  rw[hd]
  exact⟨by simp,.inl ⟨D,_,rfl,run_takeDeferred hk,v,hr,hR⟩⟩
 rcases he with rfl|rfl
 ·exact key
 ·exact key
theorem R3{P:Program}{f:FuncId}{fn:Func}{c:Code}{args:Array Value}{w:World}{R:Ending→World→Prop}(hf:P.funcs[f]?=some fn)(hb:fn.body=some c)
  (h:c.wp P (bodyPostM Fence.wide 0 P fn R) { tmps:=args++Array.replicate (fn.ntmps - args.size) undef,defers:=[] } w):Calls P f args w R :=
 (callsIn_wide (n:=0)).1 (callsIn_of_wp_marks hf hb trivial (wpIn_wide.2 h))
end
section
open Go.ChangeShapes Go.WideShapes Go.ChangeAt Go.RowKit
attribute [local irreducible] wpList wpListIn Oper.quietAt wpM
theorem chunk1_iter(tb off c m g1 g2:Nat)(hc:64*m≤c)(W0:World)(h1:blk W0 g1=some (.cells #[.slice (some ⟨tb,off,none⟩) (64*m) c] 63 (0,0)))(h2:blk W0 g2=some (.cells #[.int .i64 64] 3 (0,0)))(hm:m≤100000000) :
  IterAt Tryz.prog 165 #[.pointer (some ⟨g1,0,none⟩),.pointer (some ⟨g2,0,none⟩)] (fun k=>#[.slice (some ⟨tb,off+64*k,none⟩) 64 64]) (some m) [g1,g2] W0:=by
 intro l J Jx M W L0 hbW hR hM hJ0 hH hY
 have h1W:blk W g1=some (.cells #[.slice (some ⟨tb,off,none⟩) (64*m) c] 63 (0,0)):=(hbW.block g1 (J5 h1)).trans h1
 have h2W:blk W g2=some (.cells #[.int .i64 64] 3 (0,0)):=(hbW.block g2 (J5 h2)).trans h2
 have hn1:g1∉L0.map (·.1):=hR g1 (A4t ..)
 have hn2:g2∉L0.map (·.1):=hR g2 (A4A _ (A4t ..))
 refine(callsIn_wide (n:=1)).1 ?_
 refine callsIn_of_wp Tryz.func165 rfl trivial ?_ rfl
 simp only[Tryz.ntmps165,A4V,A4G,A4W,Nat.reduceAdd,Nat.reduceSub,A5r,A5s,A5E,A5u,A4x,A4K]
 refine ZyW ?_;intro _
 gi_loopg [4,5] m (fun r u4 u5 wr=>∃k L,r+k=m∧u4=.int .i64 (64*(k:Int))∧J k L∧Rd L0 W L wr)
 case atStart=>exact⟨0,L0,by omega,rfl,hJ0,.refl hH⟩
 case round =>
  obtain⟨k,L,hk,rfl,hJ,hRd⟩:=hrel
  have h1r:blk wr g1=some (.cells #[.slice (some ⟨tb,off,none⟩) (64*m) c] 63 (0,0)):=(hRd.far h1W hn1).1
  have h2r:blk wr g2=some (.cells #[.int .i64 64] 3 (0,0)):=(hRd.far h2W hn2).1
  by_cases hlt:k<m
  ·refine ZyW ?_;intro _ _ _ _
   refine wpIn_wide.2 ?_
   have hS:=St.start wr
   have hlen:((64*m - (64*(k:Int)).toNat:Nat):Int)≥64:=by omega
   refine I5 7 G8 G8 ?_
   dsimp only[List.take,List.drop]
   iterate 7 (first|(refine Zw ?_;apply Exists.intro;refine⟨fun pB w' hw' hF=>?_,?_⟩;(focus (have hZ:=(own_st).call hS hw';first|exact(M1 (r_min (q:=64) H8 H8 H8 H6))));refine Zo ?_)|refine ZQm ?_|refine ZQs ?_|refine ZQa ?_|refine ZQz ?_|refine ZXs ?_)
   refine Zn own_st hS ?_
   clear hS
   intro pB w hS
   try dsimp only
   have h1w:=(hS.far h1r).1
   have h2w:=(hS.far h2r).1
   have hRw:Rd L0 W L w:=hRd.trans (.call hRd.holds hS.below)
   refine Zdsm ?_;show _
   repeat' (first|refine ZaW ?_|((with_reducible refine cons_in ?_);first|((first|refine I7 I4 (by first|exact h1w) ?_|refine I7 I4 (by first|exact h2w) ?_|refine I8 I4 (by first|exact h1w) ?_|refine I8 I4 (by first|exact h2w) ?_)<;>refine I1 ?_))|(refine ZkW ?_;clear hS;intro b w hS)|(refine ZtW ?_;clear hS;intro w hS)|(refine Zcw ?_ ?_<;>intro hc)|((with_reducible refine cons_in ?_);first|(refine Stp.go I4 H8 H8 (r_slice3 (q:=off+64*k) (n':=64) (c':=64) H8 H8 G2 H8 H8 H8 H6 H6 H6 H6) ?_;refine I1 ?_))|(refine Zi ?_;first|gi_step|refine Zq ?_)|fail)
   (refine A2M H8 H8 H8 H8 H8 (hY k L w hJ hRw (fun n h=>by cases h;omega)) ?_)
   rintro e W3 ⟨L2,hRd2,(⟨rfl,hJ2⟩|⟨rfl,hx⟩)⟩
   ·refine⟨_,rfl,?_⟩
    refine I1 ?_
    have hT:=hRw.trans hRd2
    have h1q:=(hT.far h1W hn1).1
    have h2q:=(hT.far h2W hn2).1
    repeat' (first|refine ZaW ?_|((with_reducible refine cons_in ?_);first|((first|refine I7 I4 (by first|exact h1q) ?_|refine I7 I4 (by first|exact h2q) ?_|refine I8 I4 (by first|exact h1q) ?_|refine I8 I4 (by first|exact h2q) ?_)<;>refine I1 ?_))|(refine ZkW ?_;clear hS;intro b w hS)|(refine ZtW ?_;clear hS;intro w hS)|(refine Zcw ?_ ?_<;>intro hc)|(refine Zi ?_;first|gi_step|refine Zq ?_)|fail)
    gi_roundg (gk - 1)
    case rel=>exact⟨k+1,L2,by omega,by push_cast;simp[Int.mul_add],hJ2,hT⟩
    case measure=>omega
   ·refine⟨_,rfl,?_⟩
    refine I1 ?_
    have hT:=hRw.trans hRd2
    have h1q:=(hT.far h1W hn1).1
    have h2q:=(hT.far h2W hn2).1
    refine ZyW ?_;intro _
    refine bodyPost_ret (results_none rfl _ _ _) rfl ?_
    exact⟨⟨_,rfl⟩,L2,hT,.inr hx⟩
  ·obtain rfl:k=m:=by omega
   repeat' (first|refine ZaW ?_|((with_reducible refine cons_in ?_);first|((first|refine I7 I4 (by first|exact h1r) ?_|refine I7 I4 (by first|exact h2r) ?_|refine I8 I4 (by first|exact h1r) ?_|refine I8 I4 (by first|exact h2r) ?_)<;>refine I1 ?_))|(refine ZkW ?_;clear hS;intro b w hS)|(refine ZtW ?_;clear hS;intro w hS)|(refine Zcw ?_ ?_<;>intro hc)|(refine Zi ?_;first|gi_step|refine Zq ?_)|fail)
   refine bodyPost_end (results_none rfl _ _ _) rfl ?_
   exact⟨⟨_,rfl⟩,L,hRd,.inl ⟨k,rfl,hJ⟩⟩
end
end Go.Proofs.YtggbbafanhceaaaGreatRR
