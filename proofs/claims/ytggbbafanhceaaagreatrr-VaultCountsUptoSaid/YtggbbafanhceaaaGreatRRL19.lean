/-
  Laws that the claims of this seat use, of several texts in one. No condition of their own.
-/
import Derived.Test.YtggbbafanhceaaaGreatRRL18
set_option maxRecDepth 100000
set_option maxHeartbeats 8000000
set_option linter.all false
namespace Go.Proofs.YtggbbafanhceaaaGreatRR
section
open Go.ChangeShapes Go.WideShapes Go.ChangeAt Go.RowKit
attribute [local irreducible] wpList wpListIn Oper.quietAt wpM
theorem okP_sub{l R:List Pt}(h:okP l)(hR:∀x∈R,x∈l):okP R:=fun x hx=>h x (hR x hx)
end
section
open Go.RowKit
def IterL(P:Program)(gf:Nat)(lb:Array Value){α:Type}(arg:α→Array Value)(nxt:List α→α→Prop)(fin:List α→Prop)(R:List Nat)(W0:World):Prop :=
 ∀(l:Nat)(J:List α→List (Nat × Obj)→Prop)(Jx:List (Nat × Obj)→Prop)(W:World)(L0:List (Nat × Obj)),
  Below W0.heap.size W0 W→(∀b∈R,b∉L0.map (·.1))→J [] L0→Holds W L0 →
  (∀k x L W1,J k L→Rd L0 W L W1→nxt k x →
   YieldAt Fence.wide 0 P l (arg x) W1 fun e W2=>∃L2,Rd L W1 L2 W2∧((e=.returned (.bool true)∧J (k++[x]) L2)∨(e=.returned (.bool false)∧Jx L2))) →
  Calls P gf (#[.func (.yield l) #[] #[]]++lb) W fun e W'=>(∃v,e=.returned v)∧∃L',Rd L0 W L' W'∧((∃k,fin k∧J k L')∨Jx L')
theorem wp_range2L{P:Program}{g:Operand}{ps:Array Tmp}{assign body:Code}{Q:Exit→Act→World→Prop}{a:Act}{w:World}
  {gf:Nat}{lb:Array Value}(hg:a.eval g=.func (.func gf) #[] lb)(eg:∀args w,(callFunc gf args).run P w=.ok (.enter gf args) w)
  {α:Type}{arg:α→Array Value}{nxt:List α→α→Prop}{fin:List α→Prop}{R:List Nat}{W0:World}(hit:IterL P gf lb arg nxt fin R W0)(hb0:Below W0.heap.size W0 w)(hps:∀x,(arg x).size=ps.size)
  (I:List α→List (Nat × Array Value × TypeId)→Prop)(Ix:Code→List (Nat × Array Value × TypeId)→Prop)
  (L0:List (Nat × Array Value × TypeId))(h0:I [] L0)(hH:Holds w (objs L0))(hR:∀b∈R,b<w.heap.size∧b∉L0.map (·.1))(A:List α→α→List (Nat × Array Value × TypeId)→List (Nat × Array Value × TypeId)→Act→Prop)
  (hassign:∀(l:Nat)(k:List α)(x:α)(L:List (Nat × Array Value × TypeId))(W:World),I k L→nxt k x→In L0 w L W→∀K:Act→World→Prop,(∀a1 L' W',In L W L' W'→A k x L L' a1→K a1 W') →
   assign.wpIn (Fence.wide.inRound l) 0 P (Exit.then K (fun _ _ _=>False)) { tmps:=(ps.zip (arg x)).foldl (fun t (p,v)=>t.setIfInBounds p v) a.tmps,defers:=[] } W)
  (hbody:∀(l:Nat)(k:List α)(x:α)(L L':List (Nat × Array Value × TypeId))(a1:Act)(W:World),I k L→A k x L L' a1→In L0 w L' W→nxt k x→body.wpIn (Fence.wide.inRound l) 0 P (roundEnd (I (k++[x])) Ix L' W) a1 W)
  (hdone:∀(D:Nat)(n:List α)(L:List (Nat × Array Value × TypeId))(W:World),fin n→I n L→In L0 w L W→W.heap[D]?=some (.deferred (some []))→w.heap.size≤D→Q .normal { a with defers:={ target:=.collected D,args:=#[] }::a.defers } W)
  (hstop:∀(D:Nat)(c:Code)(L:List (Nat × Array Value × TypeId))(W:World),Ix c L→In L0 w L W→W.heap[D]?=some (.deferred (some []))→w.heap.size≤D→c.wp P Q { a with defers:={ target:=.collected D,args:=#[] }::a.defers } W) :
  (Code.rangeFunc g ps assign body).wp P Q a w:=by
 refine(wpIn_wide (n:=0)).1 (wpIn_rangeFunc ?_)
 intro fn hfn
 obtain⟨rec,hrec⟩:∃rec:LoopState→Option Code→Loop,rec=fun st pe=>{ state:=st,pending:=pe,fn,tmps:=a.tmps,params:=ps,assign,body,defers:=w.heap.size }:=⟨_,rfl⟩
 obtain⟨W1,hW1⟩:∃W1,(w.alloc (.deferred (some []))).alloc (.loop (rec .ready none))=W1:=⟨_,rfl⟩
 have hL1:W1.heap[w.heap.size+1]?=some (.loop (rec .ready none)):=by
  rw[←hW1];have:=World.alloc_heap_new (w.alloc (.deferred (some []))) (.loop (rec .ready none));rwa [World.size_alloc] at this
 have hK1:W1.heap[w.heap.size]?=some (.deferred (some [])):=by
  rw[←hW1];exact(Below.heap_alloc _ _ _ H7).trans (World.alloc_heap_new w _)
 have hbW:Below w.heap.size w W1:=by rw[←hW1];exact((Below.refl _ w).alloc (A4C _) _).alloc H7 _
 have hb1:Below W0.heap.size W0 W1:=hb0.trans (hbW.mono hb0.size)
 have hHk:Holds W1 (objs L0):=hH.kept (B:=[]) (Kept.of_below hbW) (fun _ _=>A5b)
 have hn1:∀m,w.heap.size≤m→m∉L0.map (·.1):=fun m hm0 hm=>by
  rw[←K5] at hm
  obtain⟨x,hx,he⟩:=A4I.1 hm
  have:=hH.lt hx;omega
 have hF0:Holds W1 ([(w.heap.size+1,.loop (rec .ready none)),(w.heap.size,.deferred (some []))]++objs L0):=by
  refine⟨fun x hx=>?_,?_⟩
  ·simp only[A4K,A4x,A4O] at hx
   rcases hx with rfl|rfl|hx
   ·exact hL1
   ·exact hK1
   ·exact hHk.1 x hx
  ·have:=hH.2
   rw[K5] at this
   simp only[A4K,A4x,A5f,K5,A5o,A4O,not_or]
   exact⟨⟨by omega,hn1 _ H6⟩,hn1 _ (A4C _),this⟩
 have hE0:∀x∈[(w.heap.size+1,Obj.loop (rec .ready none)),(w.heap.size,.deferred (some []))],w.heap.size≤x.1:=by
  intro x hx
  simp only[A4O,A5b,or_false] at hx
  rcases hx with rfl|rfl
  ·exact Nat.le_succ _
  ·exact A4C _
 refine⟨w.heap.size+1,[{ target:=.collected w.heap.size,args:=#[] }],W1,{ target:=.fn (.func gf) lb,args:=#[.func (.yield (w.heap.size+1)) #[] #[]] },W1,gf,
  #[.func (.yield (w.heap.size+1)) #[] #[]]++lb,W1,?_,?_,fun _ _=>trivial,?_,(fun h=>by cases h),?_⟩
 ·rw[←hW1,hrec];exact run_enterLoop_outer _ _ _ _ _
 ·simp only[resolve,hg]
  simp[go_sem]
 ·simp[invoke,go_sem,eg]
 ·refine callsIn_wide.2 ?_
  refine(hit (w.heap.size+1)
   (fun k L'=>∃L,L'=[(w.heap.size+1,.loop (rec .ready none)),(w.heap.size,.deferred (some []))]++objs L∧I k L)
   (fun L'=>∃L c,L'=[(w.heap.size+1,.loop (rec .done (some c))),(w.heap.size,.deferred (some []))]++objs L∧Ix c L)
   W1 ([(w.heap.size+1,.loop (rec .ready none)),(w.heap.size,.deferred (some []))]++objs L0) hb1 ?_ ⟨L0,rfl,h0⟩ hF0 ?_).mono ?_
  ·intro b hb
   obtain⟨h1,h2⟩:=hR b hb
   simp only[A4K,A4x,A5f,K5,A4O,not_or]
   exact⟨by omega,by omega,h2⟩
  · -- ONE ROUND
   rintro k x L' W ⟨L,rfl,hI⟩ hRd hkn
   have hl:W.heap[w.heap.size+1]?=some (.loop (rec .ready none)):=hRd.holds.1 _ (A4t ..)
   have hy:=run_yield (P:=P) (args:=arg x) hl (by rw[hrec];exact hps x)
   rw[hrec] at hy
   have hIn0:In L0 w L W:=Q6 (E0:=[(w.heap.size+1,.loop (rec .ready none)),(w.heap.size,.deferred (some []))]) (E:=[(w.heap.size+1,.loop (rec .ready none)),(w.heap.size,.deferred (some []))]) hbW rfl hE0 hRd
   refine⟨fn,_,assign,body,hy,roundIn_of_wpIn hfn (hassign _ k x L W hI hkn hIn0 _ fun a1 L' W' hA hAA=>?_)⟩
   have hfA:=Rd.frame (E:=[(w.heap.size+1,.loop (rec .ready none)),(w.heap.size,.deferred (some []))]) hA.rd hRd.holds
   have hl':W'.heap[w.heap.size+1]?=some (.loop (rec .ready none)):=hfA.holds.1 _ (A4t ..)
   refine⟨_,run_beginRound hl' (by rw[hrec]),?_⟩
   have hRd2:=Rd.put (L:=(w.heap.size,.deferred (some []))::objs L') (hRd.trans hfA) (.loop { rec .ready none with state:=.busy })
   have hs2:=Rd.put (L:=(w.heap.size,.deferred (some []))::objs L') hfA (.loop { rec .ready none with state:=.busy })
   generalize W'.putObj (w.heap.size+1) (.loop { rec .ready none with state:=.busy })=W2 at *
   have hIn:In L0 w L' W2:=Q6 (E0:=[(w.heap.size+1,.loop (rec .ready none)),(w.heap.size,.deferred (some []))]) (E:=[(w.heap.size+1,.loop { rec .ready none with state:=.busy }),(w.heap.size,.deferred (some []))]) hbW rfl hE0 hRd2
   refine wpIn_mono (hbody _ k x L L' a1 W2 hI hAA hIn hkn) ?_
   have fin:∀(jump:Option Code)(L2:List (Nat × Array Value × TypeId))(W3:World),In L' W2 L2 W3 →
     ∃W4,(Instr.endRound (w.heap.size+1) jump).run P W3=.ok (.bool jump.isNone) W4 ∧
      Rd ([(w.heap.size+1,.loop (rec .ready none)),(w.heap.size,.deferred (some []))]++objs L) W ([(w.heap.size+1,.loop (rec (if jump.isNone then .ready else .done) jump)),(w.heap.size,.deferred (some []))]++objs L2) W4:=fun jump L2 W3 h3=>by
    have hf:=Rd.frame (E:=[(w.heap.size+1,.loop { rec .ready none with state:=.busy }),(w.heap.size,.deferred (some []))]) h3.rd hRd2.holds
    have hl3:W3.heap[w.heap.size+1]?=some (.loop { rec .ready none with state:=.busy }):=hf.holds.1 _ (A4t ..)
    have hr:=run_endRound (P:=P) jump hl3
    refine⟨_,hr,?_⟩
    have h5:=Rd.put (L:=(w.heap.size,.deferred (some []))::objs L2) (hs2.trans hf) (.loop (rec (if jump.isNone then .ready else .done) jump))
    rw[hrec] at h5 ⊢
    exact h5
   rintro e a3 W3 hp
   cases e with
   | normal =>
    obtain⟨L2,h3,hi3⟩:=hp
    obtain⟨W4,hr,h4⟩:=fin none L2 W3 h3
    exact⟨_,_,hr,_,h4,.inl ⟨rfl,L2,rfl,hi3⟩⟩
   | ret =>
    obtain⟨L2,h3,hi3⟩:=hp
    obtain⟨W4,hr,h4⟩:=fin (some .ret) L2 W3 h3
    exact⟨_,_,hr,_,h4,.inr ⟨rfl,L2,.ret,rfl,hi3⟩⟩
   | exit id =>
    obtain⟨L2,h3,hi3⟩:=hp
    obtain⟨W4,hr,h4⟩:=fin (some (.exit id)) L2 W3 h3
    exact⟨_,_,hr,_,h4,.inr ⟨rfl,L2,.exit id,rfl,hi3⟩⟩
   | goto t =>
    obtain⟨L2,h3,hi3⟩:=hp
    obtain⟨W4,hr,h4⟩:=fin (some (.goto t)) L2 W3 h3
    exact⟨_,_,hr,_,h4,.inr ⟨rfl,L2,.goto t,rfl,hi3⟩⟩
   | panic ch=>exact hp.elim
   | outgrown=>exact hp.elim
  · -- BEHIND THE ITERATOR
   rintro e W2 ⟨⟨v,rfl⟩,L',hRd,(⟨n,hN,L,rfl,hI⟩|⟨L,c,rfl,hI⟩)⟩
   ·have hl:W2.heap[w.heap.size+1]?=some (.loop (rec .ready none)):=hRd.holds.1 _ (A4t ..)
    have hr:=run_endLoop (P:=P) hl (by rw[hrec];simp)
    have hR2:=Rd.put (L:=(w.heap.size,.deferred (some []))::objs L) hRd (.loop (rec .exhausted (none)))
    rw[show ({ rec .ready none with state:=.exhausted }:Loop)=rec .exhausted (none) by rw[hrec],show (rec .ready none).pending=none by rw[hrec]] at hr
    refine⟨none,_,hr,?_⟩
    exact hdone w.heap.size n L _ hN hI (Q6 (E0:=[(w.heap.size+1,.loop (rec .ready none)),(w.heap.size,.deferred (some []))]) (E:=[(w.heap.size+1,.loop (rec .exhausted (none))),(w.heap.size,.deferred (some []))]) hbW rfl hE0 hR2) (hR2.holds.1 _ (A4A _ (A4t ..))) (A4C _)
   ·have hl:W2.heap[w.heap.size+1]?=some (.loop (rec .done (some c))):=hRd.holds.1 _ (A4t ..)
    have hr:=run_endLoop (P:=P) hl (by rw[hrec];simp)
    have hR2:=Rd.put (L:=(w.heap.size,.deferred (some []))::objs L) hRd (.loop (rec .exhausted (some c)))
    rw[show ({ rec .done (some c) with state:=.exhausted }:Loop)=rec .exhausted (some c) by rw[hrec],show (rec .done (some c)).pending=some c by rw[hrec]] at hr
    refine⟨some c,_,hr,?_⟩
    exact(wpIn_wide (n:=0)).2 (hstop w.heap.size c L _ hI (Q6 (E0:=[(w.heap.size+1,.loop (rec .ready none)),(w.heap.size,.deferred (some []))]) (E:=[(w.heap.size+1,.loop (rec .exhausted (some c))),(w.heap.size,.deferred (some []))]) hbW rfl hE0 hR2) (hR2.holds.1 _ (A4A _ (A4t ..))) (A4C _))
theorem wp_range_boxL{P:Program}{g:Operand}{ps:Array Tmp}{assign body:Code}{Q:Exit→Act→World→Prop}{a:Act}{w:World}
  {gf:Nat}{lb:Array Value}(hg:a.eval g=.func (.func gf) #[] lb)(eg:∀args w,(callFunc gf args).run P w=.ok (.enter gf args) w)
  {α:Type}{arg:α→Array Value}{nxt:List α→α→Prop}{fin:List α→Prop}{R:List Nat}{W0:World}(hit:IterL P gf lb arg nxt fin R W0)(hb0:Below W0.heap.size W0 w)(hps:∀x,(arg x).size=ps.size)
  (I:List α→List (Nat × Array Value × TypeId)→Prop)(Ix:Code→List (Nat × Array Value × TypeId)→Prop)
  (L0:List (Nat × Array Value × TypeId))(h0:I [] L0)(hH:Holds w (objs L0))(hR:∀b∈R,b<w.heap.size∧b∉L0.map (·.1))(bx:α→Array Value)(bt:TypeId)(act1:α→Nat→Act)
  (hassign:∀(l:Nat)(k:List α)(x:α)(L:List (Nat × Array Value × TypeId))(W:World),I k L→nxt k x→In L0 w L W→∀K:Act→World→Prop,(∀b W',In L W ((b,bx x,bt)::L) W'→K (act1 x b) W') →
   assign.wpIn (Fence.wide.inRound l) 0 P (Exit.then K (fun _ _ _=>False)) { tmps:=(ps.zip (arg x)).foldl (fun t (p,v)=>t.setIfInBounds p v) a.tmps,defers:=[] } W)
  (hbody:∀(l:Nat)(k:List α)(x:α)(L:List (Nat × Array Value × TypeId))(b:Nat)(W:World),I k L→In L0 w ((b,bx x,bt)::L) W→nxt k x→body.wpIn (Fence.wide.inRound l) 0 P (roundEnd (I (k++[x])) Ix ((b,bx x,bt)::L) W) (act1 x b) W)
  (hdone:∀(D:Nat)(n:List α)(L:List (Nat × Array Value × TypeId))(W:World),fin n→I n L→In L0 w L W→W.heap[D]?=some (.deferred (some []))→w.heap.size≤D→Q .normal { a with defers:={ target:=.collected D,args:=#[] }::a.defers } W)
  (hstop:∀(D:Nat)(c:Code)(L:List (Nat × Array Value × TypeId))(W:World),Ix c L→In L0 w L W→W.heap[D]?=some (.deferred (some []))→w.heap.size≤D→c.wp P Q { a with defers:={ target:=.collected D,args:=#[] }::a.defers } W) :
  (Code.rangeFunc g ps assign body).wp P Q a w:=by
 refine wp_range2L hg eg hit hb0 hps I Ix L0 h0 hH hR (fun k x L L' a=>∃b,L'=(b,bx x,bt)::L∧a=act1 x b) (fun l k x L W hI hn hIn K hK=>hassign l k x L W hI hn hIn K fun b W' hW=>hK _ _ _ hW ⟨b,rfl,rfl⟩) ?_ hdone hstop
 rintro l k x L L' a1 W hI ⟨b,rfl,rfl⟩ hIn hN
 exact hbody l k x L b W hI hIn hN
end
section
open Go.ChangeShapes Go.WideShapes Go.ChangeAt Go.RowKit
attribute [local irreducible] wpList wpListIn Oper.quietAt wpM
attribute [local irreducible] tagL
theorem u64W_small{a:Int}(h0:0≤a)(h:a≤65535):((u64W a:Nat):Int)=a:=by unfold u64W;omega
theorem beN_two_of{a:Int}(h0:0≤a)(h:a≤65535):(beN (beB (u64W a) 2):Int)=a:=by
 have h1:=u64W_small h0 h
 have e:(256:Nat) ^ 2=65536:=by decide +kernel
 rw[A3b,e,A6d H6,h1]
theorem A1U{n:Int}(h0 : -9223372036854775808≤n)(h:n≤9223372036854775807):wrap64 (beN (beB (u64W n) 8):Int)=n:=by
 have e:(256:Nat) ^ 8=18446744073709551616:=by decide +kernel
 rw[A3b,e]
 unfold u64W wrap64
 omega
theorem numR_8(n:Int)(l:List Pt)(h:l.length≤56):numR (firstC n l) 8=l.length:=by
 have e:(256:Nat) ^ 2=65536:=by decide +kernel
 unfold numR firstC firstT
 rw[A4E,A5P (K9 _ _),A4E,A5k (K9 _ _),A3b,e,A6d H6]
theorem nums_at(tl:List UInt8):∀{l:List Pt}{i:Nat}{x:Pt},l[i]?=some x→(((l.flatMap fun x=>beB (u64W x.1) 2)++tl).drop (2*i)).take 2=beB (u64W x.1) 2
 | [],i,x,h=>by simp at h
 | y::l,0,x,h=>by
  simp at h;subst h
  rw[A6I,A5V,A5n,A4E,A5k (K9 _ _)]
 | y::l,i+1,x,h=>by
  have ih:=nums_at tl (l:=l) (i:=i) (x:=x) G6
  rw[A5n,A4E,show 2*(i+1)=2+2*i by omega,←A5W,A5P (K9 _ _)]
  exact ih
theorem numR_at(n:Int){l:List Pt}{i:Nat}{x:Pt}(h:l[i]?=some x)(h0:0≤x.1)(h1:x.1≤65535):(numR (firstC n l) (10+2*i):Int)=x.1:=by
 unfold numR firstC firstT
 rw[A4E,A4E,show 10+2*i=8+(2+2*i) by omega,←A5W,A5P (K9 _ _),←A5W,A5P (K9 _ _),nums_at _ h]
 exact beN_two_of h0 h1
theorem cntR_of{n:Int}(l:List Pt)(h0 : -9223372036854775808≤n)(h:n≤9223372036854775807):cntR (firstC n l)=n:=by
 unfold cntR firstC firstT
 rw[A4E,A4E,A5k (K9 _ _)]
 exact A1U h0 h
theorem saysR_of(n:Int){l:List Pt}(h:l.length≤56):saysR (firstC n l)=l.length:=by
 unfold saysR;rw[numR_8 n l h,if_pos h]
theorem putsD_of{n:Int}{l:List Pt}{X:List UInt8}(hs:soundP l)(h0:celX X 0=firstC n l)(hb:∀i x,l[i]?=some x→celX X (2+i)=x.2):putsD X=l:=by
 have hq:=saysR_of n hs.2.2
 unfold putsD
 rw[h0,hq]
 apply A5X
 intro i
 rw[A4U]
 by_cases hi:i<l.length
 ·rw[A6D hi,A5J,A4y hi]
  have hx:l[i]?=some l[i]:=A4y hi
  obtain⟨r1,r2⟩:=hs.2.1 l[i] (A6u hi)
  congr 1
  exact Prod.ext (numR_at n hx r1 r2) (hb i _ hx)
 ·rw[A5v (by rw[A6l];omega),A5v H6];rfl
theorem bodyL_at:∀{l:List Pt}{i:Nat}{x:Pt}(tl:List UInt8),okP l→l[i]?=some x→((bodyL l++tl).drop (128*i)).take 128=x.2
 | [],i,x,tl,_,h=>by simp at h
 | y::l,0,x,tl,ho,h=>by
  simp at h;subst h
  unfold bodyL
  rw[A6I,A5V,A5n,A4E,A5k (ho _ (A4t ..)).1]
 | y::l,i+1,x,tl,ho,h=>by
  have ih:=bodyL_at (l:=l) (i:=i) (x:=x) tl (fun z hz=>ho z (A4A _ hz)) G6
  unfold bodyL at ih ⊢
  rw[A5n,A4E,show 128*(i+1)=128+128*i by omega,←A5W,A5P (ho _ (A4t ..)).1]
  exact ih
theorem encL_body(key:List UInt8)(n:Int){l:List Pt}(tl:List UInt8)(ho:okP l)(h:l.length≤56){i:Nat}{x:Pt}(hx:l[i]?=some x):celX (encL key n l++tl) (2+i)=x.2:=by
 unfold celX encL
 rw[A4E,A4E,show 128*(2+i)=128+(128+128*i) by omega,←A5W,A5P (W7 n h),←A5W,A5P (A1G _ _ _)]
 exact bodyL_at tl ho hx
theorem encL_0t(key:List UInt8)(n:Int){l:List Pt}(tl:List UInt8)(h:l.length≤56):celX (encL key n l++tl) 0=firstC n l:=by
 unfold celX encL
 rw[A6I,A5V,A4E,A5k (W7 n h)]
theorem encL_1t(key:List UInt8)(n:Int){l:List Pt}(tl:List UInt8)(h:l.length≤56):celX (encL key n l++tl) 1=tagC key (firstC n l) l:=by
 unfold celX encL
 rw[A4E,A4E]
 exact A3o (W7 n h) (A1G _ _ _)
theorem dec_other(key other:List UInt8){n:Int}{l:List Pt}(tl:List UInt8){m:Nat}(ho:okP l)(hs:soundP l)(hn:0≤n∧n≤9223372036854775807)(hm:l.length+2≤m) :
  (DecOk other (encL key n l++tl) m↔tagC other (firstC n l) l=tagC key (firstC n l) l)∧cntR (celX (encL key n l++tl) 0)=n∧putsD (encL key n l++tl)=l:=by
 have h56:=hs.2.2
 have e0:=encL_0t key n tl h56
 have e1:=encL_1t key n tl h56
 have hp:=putsD_of hs e0 (fun i x hx=>encL_body key n tl ho h56 hx)
 have hc:=cntR_of (n:=n) l H6 hn.2
 have hq:=saysR_of n h56
 refine⟨?_,by rw[e0,hc],hp⟩
 unfold DecOk
 rw[hp,e0,e1,hq,hc]
 exact⟨fun h=>h.2.2.2.2.2,fun h=>⟨by omega,by omega,hn.1,hs,rfl,h⟩⟩
end
section
open Go.ChangeShapes Go.WideShapes Go.ChangeAt Go.RowKit
attribute [local irreducible] wpList wpListIn Oper.quietAt wpM
open Go.Maps
section
theorem hdV_inj{a b:Int}{C E:List UInt8}(h:hdV a C=hdV b E):a=b∧C=E:=by
 have h1:(Value.int .i64 a::C.map bv)=(Value.int .i64 b::E.map bv):=by
  have:=congrArg Array.toList h
  simpa[hdV] using this
 rw[List.cons.injEq] at h1
 refine⟨by simpa using h1.1,?_⟩
 have h2:=h1.2
 exact bvs_inj (by unfold bvs;rw[h2])
def okX(x:Pt):Prop:=x.2.length=128∧(-9223372036854775808≤x.1∧x.1≤9223372036854775807)
def dP(x:Pt):DataW Unit:=.lit (.string (x.2++beB (u64W x.1) 8))
theorem dP_inj{x y:Pt}(hx:okX x)(hy:okX y)(h:dP x=dP y):x=y:=by
 unfold dP at h
 simp only[DataW.lit.injEq,Lit.string.injEq] at h
 obtain⟨h1,h2⟩:=List.append_inj h (by rw[hx.1,hy.1])
 have e1:=A1U hx.2.1 hx.2.2
 have e2:=A1U hy.2.1 hy.2.2
 rw[h2,e2] at e1
 exact Prod.ext e1.symm h1
def RdSpec(rd:Value→Option (DataW Unit × List MemPlace)):Prop:=(∀x,okX x→rd (.agg (hdV x.1 x.2))=some (dP x,[]))∧∀v y,rd v=some y→∃x,okX x∧v=.agg (hdV x.1 x.2)∧y=(dP x,[])
theorem rd_exists:∃rd,RdSpec rd:=by
 classical
 refine⟨fun v=>if h:∃x:Pt,okX x∧v=.agg (hdV x.1 x.2) then some (dP h.choose,[]) else none,fun x hx=>?_,fun v y hy=>?_⟩
 ·have h:∃z:Pt,okX z∧Value.agg (hdV x.1 x.2)=.agg (hdV z.1 z.2):=⟨x,hx,rfl⟩
  dsimp only
  rw[dif_pos h]
  have h2:=h.choose_spec
  have h3:hdV x.1 x.2=hdV h.choose.1 h.choose.2:=by simpa using h2.2
  obtain⟨e1,e2⟩:=hdV_inj h3
  rw[show h.choose=x from Prod.ext e1.symm e2.symm]
 ·dsimp only at hy
  split at hy
  ·rename_i h
   cases hy
   exact⟨h.choose,h.choose_spec.1,h.choose_spec.2,rfl⟩
  ·cases hy
namespace MP
abbrev mapAt(rd:Value→Option (DataW Unit × List MemPlace))(w:World)(B n:Nat)(D:DataW Unit):Prop:=w.ownsMap Tryz.prog 3 rd B n D
theorem map_kept{rd:Value→Option (DataW Unit × List MemPlace)}{w w':World}{B n:Nat}{D:DataW Unit}(h:mapAt rd w B n D)(hb:w'.heap[B]?=w.heap[B]?):mapAt rd w' B n D:=by
 obtain⟨es,clock,h1,h2⟩:=h
 exact⟨es,clock,hb.trans h1,h2⟩
theorem map_obj{rd:Value→Option (DataW Unit × List MemPlace)}{w:World}{B n:Nat}{D:DataW Unit}(h:mapAt rd w B n D):B<w.heap.size∧∀cs t fr,w.heap[B]?≠some (.cells cs t fr):=by
 obtain⟨es,clock,h1,h2⟩:=h
 exact⟨(A4H.1 h1).1,fun cs t fr e=>by rw[h1] at e;cases e⟩
def StM(rd:Value→Option (DataW Unit × List MemPlace))(w0:World)(B n:Nat)(D:DataW Unit)(w:World)(L:List Blk):Prop:=St w0 w L∧mapAt rd w B n D∧w0.heap.size≤B
theorem own_stM{rd:Value→Option (DataW Unit × List MemPlace)}{w0:World}{B n:Nat}{D:DataW Unit}:Own w0.heap.size (StM rd w0 B n D) where
 blk:=fun i _ _ _ h hi=>h.1.blk i hi
 call:=fun h hb=>⟨h.1.call hb,map_kept h.2.1 (hb.block B (map_obj h.2.1).1),h.2.2⟩
 alloc:=fun cs t h=>⟨h.1.alloc cs t,map_kept h.2.1 (Below.heap_alloc _ _ _ (map_obj h.2.1).1),h.2.2⟩
 setRow:=fun {w} {L} i {b} {cs} {t} cs' h hi=>⟨h.1.setRow i hi cs',map_kept h.2.1 (setRow_other w b B cs' (fun e=>by
  have h1:w.heap[b]?=some (.cells cs t (0,0)):=h.1.blk i hi
  exact(map_obj h.2.1).2 _ _ _ (e ▸ h1))),h.2.2⟩
 size:=fun h=>h.1.1.size
 add:=fun h hW hg hn hb=>⟨h.1.add (A4T hW.1.1.size hg) hn hb,h.2⟩
 nodup:=fun h=>h.1.2.2
 sub:=fun h hx hn=>⟨⟨h.1.1,fun x hm=>h.1.2.1 x (hx x hm),hn⟩,h.2⟩
theorem StM.far{rd:Value→Option (DataW Unit × List MemPlace)}{w0 wr:World}{B n:Nat}{D:DataW Unit}{L:List Blk}(h:StM rd w0 B n D wr L){b:Nat}{cs:Array Value}{t:TypeId}{fr:Nat × Nat}(hb:Go.Proofs.YtggbbafanhceaaaGreatRR.blk w0 b=some (.cells cs t fr)):Go.Proofs.YtggbbafanhceaaaGreatRR.blk wr b=some (.cells cs t fr)∧(∀o,wr.cell? ⟨b,o,none⟩=cs[o]?)∧b<w0.heap.size∧b<wr.heap.size∧¬b=wr.heap.size:=h.1.far hb
variable{rd:Value→Option (DataW Unit × List MemPlace)}{ops:Array Oper}{Q:Exit→Act→World→Prop}{o:Oper}{rest:List Oper}{a:Act}{w w0:World}{L:List Blk}
theorem s_makeMap{t:TypeId}(hS:St w0 w L)(hw:Region.wanted o (yielded ops a.tmps)=true)(hop:o.op=.makeMap t none)(hk:∀B w',StM rd w0 B 0 (.map []) w' L→wpList Tryz.prog ops Q rest (a.put o.dst (.map (some B))) w'):wpList Tryz.prog ops Q (o::rest) a w:=by
 refine H9.go hw F1 (v:=.map (some w.heap.size)) (w':=w.alloc (.map #[] 0)) ?_ (hk _ _ ⟨hS.call ((Below.refl _ _).alloc (A4C _) _),World.ownsMap_made _ _ _ _,hS.1.size⟩)
 unfold execOp;rw[hop]
 rfl
theorem s_update{m x v:Operand}{t:TypeId}{B n:Nat}{D:DataW Unit}{k:Int}{z:Pt}(hrd:RdSpec rd)(hS:StM rd w0 B n D w L)(hg:o.guard=none)(hop:o.op=.mapUpdate t m x v)(ht:Tryz.prog.underlying t=some (.map 3 93))(hn:n<1000000)(hm:evO a m=some (.map (some B)))(hx:evO a x=some (.int .i64 k))(hv:evO a v=some (.agg (hdV z.1 z.2)))(hk1 : -9223372036854775808≤k∧k≤9223372036854775807)(hz:okX z)
  (hk:∀w',StM rd w0 B (n+1) (D.put (.int .i64 k) (dP z)) w' L→wpList Tryz.prog ops Q rest (a.put o.dst undef) w'):wpList Tryz.prog ops Q (o::rest) a w:=by
 refine wpList_mapUpdate_own w hg m x v t hop 3 93 (int_keyed Tryz.underlying3) ht _ B n D (I3 hm) hS.2.1 F6 _ _ _ (I3 hx) (I3 hv) (keyOf_int_mk Tryz.underlying3 (i64_wf hk1)) _ [] (hrd.1 z hz) ?_
 intro w' h1 h2
 refine hk w' ⟨?_,h1,hS.2.2⟩
 obtain⟨hb,hl,hnd⟩:=hS.1
 have hbelow:Below w0.heap.size w w':=⟨h2.os,h2.tape,h2.output,h2.size,fun k hk=>h2.block k (A6f hk hb.size) (fun e=>by cases e;exact Nat.lt_irrefl _ (A6f hk hS.2.2))⟩
 refine⟨hb.trans hbelow,fun y hy=>⟨(hl y hy).1,?_⟩,hnd⟩
 have h3:=(hl y hy).2
 have h4:y.1<w.heap.size:=J5 h3
 refine(h2.block y.1 h4 (fun e=>?_)).trans h3
 cases e
 exact(map_obj hS.2.1).2 _ _ _ h3
end MP
end
section
def MapOf(l:List Pt)(D:DataW Unit):Prop:=IsMap D∧(∀a x,lastP l a=some x→∀z,D.atKey (.int .i64 a) z=dP x)∧(∀a,lastP l a=none→∀z,D.atKey (.int .i64 a) z=z)
theorem mapOf_nil:MapOf [] (.map []):=⟨⟨[],rfl⟩,fun a x h=>by simp[lastP] at h,fun a _ z=>rfl⟩
theorem mapOf_snoc{l:List Pt}{D:DataW Unit}(h:MapOf l D)(x:Pt):MapOf (l++[x]) (D.put (.int .i64 x.1) (dP x)):=by
 obtain⟨h1,h2,h3⟩:=h
 refine⟨h1.put _ _,fun a y hy z=>?_,fun a hy z=>?_⟩
 ·rw[N7] at hy
  by_cases he:x.1=a
  ·rw[if_pos he] at hy
   cases hy
   rw[←he]
   exact atKey_put_same h1 (by trivial) _ _
  ·rw[if_neg he] at hy
   rw[atKey_put_other (fun e=>he (by cases e;rfl))]
   exact h2 a y hy z
 ·rw[N7] at hy
  by_cases he:x.1=a
  ·rw[if_pos he] at hy;cases hy
  ·rw[if_neg he] at hy
   rw[atKey_put_other (fun e=>he (by cases e;rfl))]
   exact h3 a hy z
theorem mapOf_has{l:List Pt}{D:DataW Unit}(h:MapOf l D)(a:Int):has D (.int .i64 a)=true↔∃x,lastP l a=some x:=by
 constructor
 ·intro hh
  cases hl:lastP l a with
  | some x=>exact⟨x,rfl⟩
  | none=>rw[has_false_of_atKey (h.2.2 a hl)] at hh;cases hh
 ·rintro⟨x,hx⟩
  exact has_true_of_atKey (h.2.1 a x hx)
def vNext(l pre:List Pt)(x:Pt):Prop:=lastP l x.1=some x∧∀y∈pre,y.1≠x.1
def vAll(l pre:List Pt):Prop:=∀a x,lastP l a=some x→x∈pre
theorem A2N{P:Program}{k:TypeId}{R:Value→Option (DataW Unit × List MemPlace)}{w w':World}{b r n:Nat}{D:DataW Unit}{left:Lit→Bool}{cnt:Nat}(h:w.ranges P k R b r n D left cnt)(hb:w'.heap[b]?=w.heap[b]?)(hr:w'.heap[r]?=w.heap[r]?):w'.ranges P k R b r n D left cnt:=by
 obtain⟨es,clock,since,seen,c0,h1,h2,h3,h4,h5,h6⟩:=h
 exact⟨es,clock,since,seen,c0,hb.trans h1,h2,h3,h4,hr.trans h5,h6⟩
theorem r_entry{P:Program}{o:Oper}{a:Act}{w:World}{x:Operand}{u v:Value}(hop:o.op=.entry x)(hx:evO a x=some u)(hen:(Instr.entry u).run P w=.ok v w):(execOp a.eval o).run P w=.ok (.value v) w:=by
 unfold execOp;rw[hop]
 simp[I3 hx,hen]
theorem values1_iter{rd:Value→Option (DataW Unit × List MemPlace)}(hrd:RdSpec rd)(l:List Pt)(ho:okP l)(Bmm B n:Nat)(D:DataW Unit)(W0:World){t:TypeId}{fr:Nat × Nat}(hm:blk W0 Bmm=some (.cells #[.map (some B)] t fr))(hown:MP.mapAt rd W0 B n D)(hD:MapOf l D) :
  IterL Tryz.prog 130 #[.pointer (some ⟨Bmm,0,none⟩)] (fun x:Pt=>#[.agg (hdV x.1 x.2)]) (vNext l) (vAll l) [Bmm,B] W0:=by
 intro lb J Jx W L0 hbW hR hJ0 hH hY
 have hBm:Bmm∉L0.map (·.1):=hR Bmm (A4t ..)
 have hBn:B∉L0.map (·.1):=hR B (A4A _ (A4t ..))
 have hmW:blk W Bmm=some (.cells #[.map (some B)] t fr):=(hbW.block Bmm (J5 hm)).trans hm
 have howW:MP.mapAt rd W B n D:=MP.map_kept hown (hbW.block B (MP.map_obj hown).1)
 clear hbW hR hm hown
 refine(callsIn_wide (n:=1)).1 ?_
 refine callsIn_of_wp Tryz.func130 rfl trivial ?_ rfl
 simp only[Tryz.ntmps130,A4V,A4G,A4W,Nat.reduceAdd,Nat.reduceSub,A5r,A5s,A5E,A5u,A4x,A4K]
 have hS:=St.start W
 repeat' (first|refine ZaVm ?_|((with_reducible refine cons_in ?_);first|((first|refine I7 I4 (by first|exact((hS).far hmW).1) ?_|refine I8 I4 (by first|exact((hS).far hmW).1) ?_)<;>refine I1 ?_))|(refine ZkV ?_;clear hS;intro b w hS)|(refine ZtVm ?_;clear hS;intro w hS)|(refine Zcw ?_ ?_<;>intro hc)|(refine Zi ?_;first|gi_step|refine Zq ?_)|fail)
 refine wpListIn_range_own _ H8 _ 164 H8 3 93 (int_keyed Tryz.underlying3) Tryz.underlying164 rd B n D H8 howW ?_
 intro w1 hrg hg1 hs1
 refine I1 ?_
 have hr0:W.heap.size∉L0.map (·.1):=fun hm=>by
  obtain⟨x,hx,he⟩:=A4I.1 hm
  have:=hH.lt hx
  omega
 have hRd0:Rd L0 W L0 w1:=by
  refine .call hH ⟨hg1.os,hg1.tape,hg1.output,hg1.size,fun k hk=>hg1.block k hk H7⟩
 refine ZdVm ?_;show _
 gi_loopw [4] (fun _ wr=>∃(left:Lit→Bool)(cnt:Nat)(pre:List Pt)(L:List (Nat × Obj)),wr.ranges Tryz.prog 3 rd B W.heap.size n D left cnt∧(∀a:Int,left (.int .i64 a)=(has D (.int .i64 a) && !(pre.any fun y=>y.1 == a)))∧(∀y∈pre,lastP l y.1=some y)∧J pre L∧Rd L0 W L wr∧W.heap.size∉L.map (·.1))
  (fun _ wr=>wr.rangeLeft B W.heap.size)
 case atStart=>exact⟨_,_,[],L0,hrg,fun a=>by simp,by simp,hJ0,hRd0,hr0⟩
 case round =>
  clear hS
  obtain⟨left,cnt,pre,L,hrg,hleft,hpre,hJ,hRd,hrL⟩:=hrel
  have hS:=St.start wr
  refine ZdVm ?_;intro _ _ _
  refine wpListIn_next_ranges _ H8 _ H8 3 (int_keyed Tryz.underlying3) rd (Value.int .i64) Value.agg (fun key kl hk=>by
   obtain⟨x,hx,_⟩:=Maps.keyOf_int_inv Tryz.underlying3 hk
   exact⟨x,hx⟩) (fun v y hv=>by
   obtain⟨x,_,rfl,_⟩:=hrd.2 v y hv
   exact⟨_,rfl⟩) B W.heap.size n _ _ _ H8 hrg ?_ ?_
  ·intro hc0 hl0
   refine I1 ?_
   have hall:vAll l pre:=fun a x hx=>by
    have h1:=hleft a
    rw[hl0,(mapOf_has hD a).2 ⟨x,hx⟩,Bool.true_and] at h1
    have h2:(pre.any fun y=>y.1 == a)=true:=by
     cases hq:(pre.any fun y=>y.1 == a) with
     | true=>rfl
     | false=>rw[hq] at h1;cases h1
    obtain⟨y,hy,he⟩:=List.any_eq_true.1 h2
    have he':y.1=a:=by simpa using he
    have h3:=hpre y hy
    rw[he',hx] at h3
    cases h3
    exact hy
   refine ZdVm ?_;intro _ _
   refine bodyPost_end (results_none rfl _ _ _) rfl ?_
   exact⟨⟨_,rfl⟩,L,hRd,.inl ⟨pre,hall,hJ⟩⟩
  ·intro a cs kl yd w2 cnt2 hkey hlk hv hat hrg2 hlt hg2 hs2 hen
   obtain⟨a',e1,rfl,_⟩:=Maps.keyOf_int_inv Tryz.underlying3 hkey
   cases e1
   obtain⟨x,hx,hvx,rfl⟩:=hrd.2 _ _ hv
   cases hvx
   have hlx:lastP l a=some x:=by
    cases hq:lastP l a with
    | none =>
     have h1:=hD.2.2 a hq (.lit (.int .i64 0))
     rw[hat] at h1
     unfold dP at h1
     cases h1
    | some x' =>
     have h1:=hD.2.1 a x' hq (.lit (.int .i64 0))
     rw[hat] at h1
     rw[dP_inj (ho x' (O1 hq).2) hx h1.symm]
   have hxa:=(O1 hlx).1
   have hnot:∀y∈pre,y.1≠x.1:=fun y hy e=>by
    have h1:=hleft a
    rw[hlk,(mapOf_has hD a).2 ⟨x,hlx⟩,Bool.true_and] at h1
    have h2:(pre.any fun y=>y.1 == a)=true:=List.any_eq_true.2 ⟨y,hy,by simp[e,hxa]⟩
    rw[h2] at h1
    cases h1
   subst hxa
   have hnx:vNext l pre x:=⟨hlx,hnot⟩
   have hRd2:Rd L0 W L w2:=⟨⟨fun z hz=>(hg2.block z.1 (hRd.holds.lt hz) (fun e=>hrL (A4I.2 ⟨z,hz,Option.some.inj e⟩))).trans (hRd.holds.1 z hz),hRd.holds.2⟩,
    ⟨hg2.os.trans hRd.kept.os,hg2.tape.trans hRd.kept.tape,hg2.output.trans hRd.kept.output,A4T hRd.kept.size hg2.size,fun k hk hn=>(hg2.block k (A6f hk hRd.kept.size) (fun e=>by cases e;exact Nat.lt_irrefl _ hk)).trans (hRd.kept.block k hk hn)⟩,hRd.fresh⟩
   replace hS:=St.start w2
   have hrlt:W.heap.size<w2.heap.size:=hrg2.lt
   have hyk:=fun W=>hY pre x L W hJ
   have s1:csz (hdV x.1 x.2)=129:=by rw[L6,hx.1]
   have s2:csz (hdV 0 (zs 128))=129:=by rw[L6,zs_len]
   refine I1 ?_
   repeat' (first|refine ZaVm ?_|(refine ZkV ?_;clear hS;intro b w hS)|(refine ZtVm ?_;clear hS;intro w hS)|(refine Zcw ?_ ?_<;>intro hc)|((with_reducible refine cons_in ?_);first|(refine Stp.go I4 H8 H8 (r_entry H8 H8 hen) ?_;refine I1 ?_)|(refine J8 I4 own_st hS ?_ (hv:=P1 _ _);clear hS;intro w hS;refine I1 ?_))|(refine Zi ?_;first|gi_step|refine Zq ?_)|fail)
   have hRd1:=hRd2.trans (.call hRd2.holds hS.below)
   have hbB:=hS.below
   (refine A2M H8 H8 H8 H8 H8 (by simpa using hyk _ hRd1 hnx) ?_)
   rintro e W3 ⟨L2,hRd3,(⟨rfl,hJ2⟩|⟨rfl,hx2⟩)⟩
   ·refine⟨_,rfl,?_⟩
    refine I1 ?_
    have hRd4:=hRd1.trans hRd3
    have hBl:=(MP.map_obj howW).1
    have hrg3:W3.ranges Tryz.prog 3 rd B W.heap.size n D _ cnt2:=A2N hrg2 ((hRd4.kept.block B hBl hBn).trans (hRd2.kept.block B hBl hBn).symm) ((hRd3.kept.block _ (A6f hrlt hbB.size) hrL).trans (hbB.block _ hrlt))
    have hrL2:W.heap.size∉L2.map (·.1):=fun hm=>by
     obtain⟨z,hz,he⟩:=A4I.1 hm
     have h5:=hbB.size
     rcases hRd3.fresh z hz with h|h
     ·exact hrL (by rw[←he];exact h)
     ·omega
    clear hS
    have hS:=St.start W3
    refine ZdVm ?_;intro _
    go_roundw
    case rel =>
     refine⟨_,cnt2,pre++[x],L2,hrg3,fun a=>?_,fun y hy=>?_,hJ2,hRd4,hrL2⟩
     ·rw[hleft a,List.any_append]
      by_cases he:x.1=a
      ·subst he;simp[Lit.sameKey]
      ·have h6:(Lit.int .i64 a).sameKey (.int .i64 x.1)=false:=sameKey_ne (fun e=>he (by cases e;rfl))
       have h7:(x.1 == a)=false:=by simpa using he
       simp[h6,h7]
     ·rcases A5c.1 hy with hy|hy
      ·exact hpre y hy
      ·simp at hy;subst hy;exact hlx
    case measure=>rw[hrg3.left_eq,hrg.left_eq];exact hlt
   ·refine⟨_,rfl,?_⟩
    refine I1 ?_
    have hRd4:=hRd1.trans hRd3
    clear hS
    have hS:=St.start W3
    refine ZdVm ?_;intro _
    refine bodyPost_ret (results_none rfl _ _ _) rfl ?_
    exact⟨⟨_,rfl⟩,L2,hRd4,.inr hx2⟩
end
end
section
open Go.ChangeShapes Go.WideShapes Go.ChangeAt Go.RowKit
section
attribute [local go_sem] Oper.semAt_some
theorem postM{P:Program}{fn:Func}{R:Ending→World→Prop}{a:Act}{w:World}{e:Exit}{D:Nat}(he:e=.ret∨e=.normal)(hd:a.defers=[{ target:=.collected D,args:=#[] }])(hk:w.heap[D]?=some (.deferred (some [])))
  (h:bodyPost P fn R .ret { a with defers:=[] } (w.putObj D (.deferred none))):bodyPostM Fence.wide 0 P fn R e a w:=by
 obtain⟨_,v,hr,hR⟩:=h
 have key:LeavesInM Fence.wide 0 P fn a.tmps R a.defers .returning w:=by
  rw[hd]
  exact⟨by simp,.inl ⟨D,_,rfl,run_takeDeferred hk,v,hr,hR⟩⟩
 rcases he with rfl|rfl
 ·exact key
 ·exact key
theorem postM0{P:Program}{fn:Func}{R:Ending→World→Prop}{a:Act}{w:World}{e:Exit}(he:e=.ret∨e=.normal)(h:bodyPost P fn R e a w):bodyPostM Fence.wide 0 P fn R e a w:=by
 rcases he with rfl|rfl
 ·obtain⟨hd,v,hr,hR⟩:=h
  show LeavesInM Fence.wide 0 P fn a.tmps R a.defers .returning w
  rw[hd]
  exact⟨v,hr,hR⟩
 ·obtain⟨hd,v,hr,hR⟩:=h
  show LeavesInM Fence.wide 0 P fn a.tmps R a.defers .returning w
  rw[hd]
  exact⟨v,hr,hR⟩
theorem S6{P:Program}{f:FuncId}{fn:Func}{c:Code}{args:Array Value}{w:World}{R:Ending→World→Prop}(hf:P.funcs[f]?=some fn)(hb:fn.body=some c)
  (h:c.wp P (bodyPostM Fence.wide 0 P fn R) { tmps:=args++Array.replicate (fn.ntmps - args.size) undef,defers:=[] } w):Calls P f args w R :=
 (callsIn_wide (n:=0)).1 (callsIn_of_wp_marks hf hb trivial (wpIn_wide.2 h))
def powB(b:UInt8):Nat→UInt8
 | 0=>1
 | k+1=>mulB (powB b k) b
theorem powB_succ(b:UInt8)(k:Nat):powB b (k+1)=mulB (powB b k) b:=rfl
theorem powB_zero(b:UInt8):powB b 0=1:=rfl
attribute [irreducible] powB
theorem powers_any(b:UInt8)(w:World):Calls Tryz.prog 159 #[.int .u8 b.toNat] w fun e w'=>e=.returned (.func (.func 177) #[] #[.pointer (some ⟨w.heap.size,0,none⟩)])∧w'=w.alloc (.cells #[.int .u8 b.toNat] 5):=by
 go_enter Tryz.func159,Tryz.ntmps159
 go_wp2
 go_ret
 exact⟨rfl,rfl⟩
theorem powers1_iter(b:UInt8)(g:Nat)(W0:World)(hg:blk W0 g=some (.cells #[.int .u8 b.toNat] 5 (0,0))) :
  IterAt Tryz.prog 177 #[.pointer (some ⟨g,0,none⟩)] (fun k=>#[.int .u8 (powB b k).toNat]) none [g] W0:=by
 intro l J Jx M W L0 hbW hR hM hJ0 hH hY
 have hgW:blk W g=some (.cells #[.int .u8 b.toNat] 5 (0,0)):=(hbW.block g (J5 hg)).trans hg
 have hgn:g∉L0.map (·.1):=hR g (A4t ..)
 have hM':=hid (hM rfl)
 have HY:=hid hY
 clear hM hY hR hg hbW
 refine(callsIn_wide (n:=1)).1 ?_
 refine callsIn_of_wp Tryz.func177 rfl trivial ?_ rfl
 simp only[Tryz.ntmps177,A4V,A4G,A4W,Nat.reduceAdd,Nat.reduceSub,A5r,A5s,A5E,A5u,A4x,A4K]
 gi_wp2
 gi_loopg [3] M (fun n u3 wr=>∃k L,n+k=M∧u3=.int .u8 ((powB b k).toNat:Int)∧J k L∧Rd L0 W L wr)
 case atStart=>exact⟨0,L0,by omega,by rw[powB_zero];rfl,hJ0,.refl hH⟩
 case round =>
  obtain⟨k,L,hk,rfl,hJ,hRd⟩:=hrel
  obtain⟨fn,tmps,assign,body,hy,hRo⟩:=HY.out k L wr hJ hRd (fun n h=>by cases h)
  have HH:=hid hRd;have HHJ:=hid hJ
  clear hRd hJ
  gi_wp2
  refine hRo.mono ?_
  rintro e W3 ⟨L2,hRd2,(⟨rfl,hJ2⟩|⟨rfl,hx⟩)⟩
  ·have hT:=HH.out.trans hRd2
   have hm:=hM'.out (k+1) L2 hJ2
   obtain⟨hb2,hc2,hl2⟩:=hT.farCells hgW hgn
   have HT:=hid hT;have HJ:=hid hJ2
   clear hT hRd2 hJ2 hRo hy HH HHJ
   gi_wp2_with fail
   refine(callsIn_wide.2 (mul_any (powB b k) b _)).mono ?_
   rintro e w' ⟨rfl,rfl⟩
   gi_wp2
   gi_roundg (gk - 1)
   case rel=>exact⟨k+1,L2,by omega,by rw[powB_succ],HJ.out,HT.out⟩
   case measure=>omega
  ·have hT:=HH.out.trans hRd2
   gi_wp2
   go_end0
   exact⟨⟨_,rfl⟩,L2,hT,.inr hx⟩
theorem powers2_any(w:World):Calls Tryz.prog 159 #[.int .u8 2] w fun e w'=>e=.returned (.func (.func 177) #[] #[.pointer (some ⟨w.heap.size,0,none⟩)])∧w'=w.alloc (.cells #[.int .u8 2] 5):=powers_any 2 w
theorem constant_any(i:Nat)(h1:1≤i)(h60:i≤60)(w:World):Calls Tryz.prog 138 #[.int .i64 i] w fun e w'=>e=.returned (.agg (bvs [powB 2 (i - 1),0,0,0]))∧Below w.heap.size w w':=by
 have z:=zs4
 have g1:¬((i:Int)<1):=by omega
 have g2:¬(60<(i:Int)):=by omega
 refine S6 Tryz.func138 rfl ?_
 simp only[Tryz.ntmps138,A4V,A4G,A4W,Nat.reduceAdd,Nat.reduceSub,A5r,A5s,A5E,A5u,A4x,A4K]
 go_wp2_with fail
 with_reducible refine(powers2_any _).mono ?_
 rintro e w1 ⟨rfl,rfl⟩
 have hS:St w (((w.alloc (.cells #[.int .i64 i] 3)).alloc (.cells (bvs (zs 4)) 225)).alloc (.cells #[.int .i64 1] 3)) [(w.heap.size+1+1,#[.int .i64 1],3),(w.heap.size+1,bvs (zs 4),225),(w.heap.size,#[.int .i64 i],3)]:=(St.alloc' (St.alloc' (St.alloc' (St.start w) F7) F7) F7)
 have hS2:=hS.alloc' (n:=w.heap.size+1+1+1) (cs:=#[.int .u8 2]) (t:=5) H7
 clear hS
 go_wp2_with fail
 generalize (((w.alloc (.cells #[.int .i64 i] 3)).alloc (.cells (bvs (zs 4)) 225)).alloc (.cells #[.int .i64 1] 3)).alloc (.cells #[.int .u8 2] 5)=W at *
 have hnd:=hS2.2.2
 have hit:=powers1_iter 2 (w.heap.size+1+1+1) W (hS2.blk 0 rfl)
 have hlt:=J5 (hS2.blk 0 rfl)
 have hS3:=hS2.tail
 generalize w.heap.size+1+1+1=b3 at *
 generalize w.heap.size+1+1=b2 at *
 generalize w.heap.size+1=b1 at *
 refine wp_range (els:=fun k=>#[.int .u8 (powB 2 k).toNat]) (N:=none) (R:=[b3]) (gf:=177) (lb:=#[.pointer (some ⟨b3,0,none⟩)]) H8 F2 hit (Below.refl _ _) (fun _=>rfl)
  (fun k L=>k<i∧L=[(b2,#[.int .i64 ((k:Int)+1)],3),(b1,bvs (zs 4),225),(w.heap.size,#[.int .i64 i],3)])
  (fun c L=>c=.ret∧∃x,L=[x,(b1,bvs [powB 2 (i - 1),0,0,0],225),(w.heap.size,#[.int .i64 i],3)]) i (fun _ k L h=>h.1)
  [(b2,#[.int .i64 1],3),(b1,bvs (zs 4),225),(w.heap.size,#[.int .i64 i],3)] ⟨h1,rfl⟩ hS3.holds ?R ?act1 ?assign ?body ?done ?stop
 case R =>
  intro b hb
  obtain rfl:=A5w.1 hb
  simp only[A5f,List.map_nil,A5o] at hnd
  exact⟨hlt,hnd.1⟩
 case assign =>
  intro l k W1 K hK
  gi_wp2
  exact hK
 case body =>
  rintro l k L W1 ⟨hk,rfl⟩ hIn _
  have hB:=hIn.round
  clear hIn hnd hit hlt hS3 hS2
  generalize hp:powB 2 k=p
  have HP:=hid hp;clear hp
  have hb:(bvs (zs 4)).setIfInBounds 0 (.int .u8 (p.toNat:Int))=bvs [p,0,0,0]:=by rw[←zs4];rfl
  have s0:csz (bvs [p,0,0,0])=4:=rfl
  have e0:¬bvs (zs 4)=#[]:=by rw[←zs4];simp
  have f0:(0:Int)≤(k:Int):=by omega
  have f1:(k:Int)<60:=by omega
  obtain⟨kb0,kc0,kf0,kl0,kn0⟩:=hB.at 0 rfl;obtain⟨kb1,kc1,kf1,kl1,kn1⟩:=hB.at 1 rfl;obtain⟨kb2,kc2,kf2,kl2,kn2⟩:=hB.at 2 rfl
  by_cases hki:k+1=i
  ·have hki2:((k:Int)+1 == (i:Int))=true:=by simp;omega
   have HK:=hid hki;clear hki
   gi_wp2
   have h2:=hB.setRow 1 rfl (bvs [p,0,0,0])
   simp only[A4r,A4s] at h2
   exact⟨_,h2,rfl,_,by rw[show i - 1=k by have:=HK.out;omega,HP.out]⟩
  ·have hki2:((k:Int)+1 == (i:Int))=false:=by simp;omega
   gi_wp2
   have h2:=hB.setCell 0 rfl 0 (.int .i64 ((k:Int)+1+1))
   simp only[A4r] at h2
   exact⟨_,h2,by omega,rfl⟩
 case done=>intro D n L W1 h;cases h
 case stop =>
  rintro D c L W1 ⟨rfl,x,rfl⟩ hIn hD hD0
  have hS4:=hS3.range hIn
  have h5:=hS4.shut hD (fun _ _ _ h=>by cases h) (A4T hS3.below.size hD0) (.deferred none)
  clear hS4 hIn hS3 hS2 hit hnd
  go_wp2
  refine postM (.inl rfl) rfl hD ?_
  exact J6 (n:=4) Tryz.results138 G8 (.inl rfl) _ _ _ _ rfl rfl (h5.blk 1 rfl) rfl ⟨rfl,h5.below⟩
end
section
end
section
def conB(i:Int):UInt8:=if 1≤i∧i≤60 then powB 2 (i - 1).toNat else 0
theorem conB_in(i:Nat)(h1:1≤i)(h60:i≤60):conB i=powB 2 (i - 1):=by
 unfold conB;rw[if_pos H6];congr 1;omega
theorem conB_out(i:Int)(h:i<1∨60<i):conB i=0:=by unfold conB;rw[if_neg H6]
attribute [irreducible] conB
theorem constantOut_any(i:Int)(h:i<1∨60<i)(w:World):Calls Tryz.prog 138 #[.int .i64 i] w fun e w'=>e=.returned (.agg (bvs (zs 4)))∧Below w.heap.size w w':=by
 have z:=zs4
 have s0:csz (bvs (zs 4))=4:=csz_zs 4
 rcases h with h|h
 ·refine S6 Tryz.func138 rfl ?_
  simp only[Tryz.ntmps138,A4V,A4G,A4W,Nat.reduceAdd,Nat.reduceSub,A5r,A5s,A5E,A5u,A4x,A4K]
  go_wp2
  refine postM0 (.inl rfl) ?_
  exact J6 (n:=4) Tryz.results138 G8 (.inl rfl) _ (bvs (zs 4)) 225 (0,0) rfl rfl (by simp[go_sem]) s0 ⟨rfl,A5⟩
 ·have h2:¬i<1:=by omega
  refine S6 Tryz.func138 rfl ?_
  simp only[Tryz.ntmps138,A4V,A4G,A4W,Nat.reduceAdd,Nat.reduceSub,A5r,A5s,A5E,A5u,A4x,A4K]
  go_wp2
  refine postM0 (.inl rfl) ?_
  exact J6 (n:=4) Tryz.results138 G8 (.inl rfl) _ (bvs (zs 4)) 225 (0,0) rfl rfl (by simp[go_sem]) s0 ⟨rfl,A5⟩
theorem A3V(i:Int)(w:World):Calls Tryz.prog 138 #[.int .i64 i] w fun e w'=>e=.returned (.agg (bvs [conB i,0,0,0]))∧Below w.heap.size w w':=by
 by_cases h:1≤i∧i≤60
 ·obtain⟨n,rfl⟩:∃n:Nat,i=(n:Int):=⟨i.toNat,by omega⟩
  rw[conB_in n H6 H6]
  exact constant_any n H6 H6 w
 ·rw[conB_out i H6,←zs4_is]
  exact constantOut_any i H6 w
end
end
end Go.Proofs.YtggbbafanhceaaaGreatRR
