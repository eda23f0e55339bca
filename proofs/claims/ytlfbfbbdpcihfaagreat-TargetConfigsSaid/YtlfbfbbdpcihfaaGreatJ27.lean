/- Laws that the claim uses. No condition of their own. -/
import Derived.Test.YtlfbfbbdpcihfaaGreatJ26
set_option maxRecDepth 100000
set_option maxHeartbeats 8000000
set_option linter.all false
namespace Go.Proofs.YtlfbfbbdpcihfaaGreat
section
open Go.ChangeShapes Go.WideShapes Go.ChangeAt Go.RowKit
def owL(M:List UInt8)(o:Nat)(l:List UInt8):List UInt8:=M.take o++(l++M.drop (o+l.length))
def sl(M:List UInt8)(o n:Nat):List UInt8:=(M.drop o).take n
theorem sl_len{M:List UInt8}{o n:Nat}(h:o+n<=M.length):(sl M o n).length=n:=by unfold sl;rw[A3s,A3H];omega
theorem K0{M l:List UInt8}{o:Nat}(h:o+l.length<=M.length):(owL M o l).length=M.length:=by
 unfold owL;rw[A3k,A3k,A3s,A3H];omega
theorem owL_at{M l:List UInt8}{o:Nat}(h:o+l.length<=M.length)(k:Nat):(owL M o l)[k]?=if o<=k/\k<o+l.length then l[k - o]? else M[k]?:=by
 unfold owL
 by_cases h1:k<o
 ·rw[A3E D1,A4f,if_pos h1,if_neg E9]
 ·rw[A3P D1,A3s,A5j E9]
  by_cases h2:k<o+l.length
  ·rw[A3E E9,if_pos E9]
  ·rw[A3P E9,if_neg E9,A4z]
   congr 1;omega
theorem A0w(M:List UInt8)(o n k:Nat):(sl M o n)[k]?=if k<n then M[o+k]? else none:=by
 unfold sl
 by_cases h:k<n
 ·rw[if_pos h,A4f,if_pos h,A4z]
 ·rw[if_neg h]
  exact A4C D1
theorem A0v{M l:List UInt8}{o n:Nat}(hl:l.length=n)(h:o+n<=M.length):sl (owL M o l) o n=l:=by
 apply A5d
 intro k
 rw[A0w,owL_at E9]
 by_cases hk:k<n
 ·rw[if_pos hk,if_pos E9]
  congr 1;omega
 ·rw[if_neg hk,A4C E9]
theorem N0{M l:List UInt8}{o p n:Nat}(h:o+l.length<=M.length)(hd:p+n<=o\/o+l.length<=p):sl (owL M o l) p n=sl M p n:=by
 apply A5d
 intro k
 rw[A0w,A0w]
 by_cases hk:k<n
 ·rw[if_pos hk,if_pos hk,owL_at h,if_neg E9]
 ·rw[if_neg hk,if_neg hk]
theorem sl_sl{M:List UInt8}{o n p m:Nat}(h:p+m<=n):sl (sl M o n) p m=sl M (o+p) m:=by
 unfold sl
 rw[List.drop_take,List.take_take,A5i,A5j E9]
theorem P3(X:List UInt8)(i:Nat):celX X i=sl X (128*i) 128:=rfl
def setC(s:List UInt8)(i:Nat)(C:List UInt8):List UInt8:=owL s (128*i) C
theorem setC_len{s C:List UInt8}{i N:Nat}(hs:s.length=128*N)(hi:i<N)(hC:C.length=128):(setC s i C).length=128*N:=by unfold setC;rw[K0 E9,hs]
theorem celX_setC{s C:List UInt8}{i j N:Nat}(hs:s.length=128*N)(hi:i<N)(hC:C.length=128):celX (setC s i C) j=if j=i then C else celX s j:=by
 unfold setC
 rw[P3,P3]
 by_cases h:j=i
 ·subst h;rw[if_pos rfl];exact A0v hC E9
 ·rw[if_neg h];exact N0 E9 E9
theorem cells_ext{s t:List UInt8}{N:Nat}(hs:s.length=128*N)(ht:t.length=128*N)(h:∀i,i<N->celX s i=celX t i):s=t:=by
 apply A5d
 intro k
 by_cases hk:k<128*N
 ·have h1:=congrArg (·[k % 128]?) (h (k / 128) E9)
  simp only[P3,A0w] at h1
  rw[if_pos E9,if_pos E9,show 128*(k / 128)+k % 128=k by omega] at h1
  exact h1
 ·rw[A4C E9,A4C E9]
def inP(N:Nat)(l:List Pt):Prop:=∀x∈l,0<=x.1/\x.1<(N:Int)/\x.2.length=128
def applyP(s:List UInt8)(l:List Pt):List UInt8:=l.foldl (fun s x=>setC s x.1.toNat x.2) s
theorem applyP_snoc(s:List UInt8)(l:List Pt)(x:Pt):applyP s (l++[x])=setC (applyP s l) x.1.toNat x.2:=by unfold applyP;rw[List.foldl_append];rfl
theorem inP_snoc{N:Nat}{l:List Pt}{x:Pt}:inP N (l++[x])↔inP N l/\(0<=x.1/\x.1<(N:Int)/\x.2.length=128):=by
 unfold inP
 constructor
 ·exact fun h=>⟨fun y hy=>h y (A4B _ hy),h x F0⟩
 ·rintro⟨h1,h2⟩ y hy
  rcases A3Y.1 hy with hy|hy
  ·exact h1 y hy
  ·rw[A4p] at hy;subst hy;exact h2
theorem rev_ind{α:Type}{p:List α->Prop}(h0:p [])(h1:∀l x,p l->p (l++[x])):∀l,p l:=by
 intro l
 have:∀r:List α,p r.reverse:=by
  intro r
  induction r with
  | nil=>exact h0
  | cons x r ih=>rw[List.reverse_cons];exact h1 _ _ ih
 have h:=this l.reverse
 rwa [List.reverse_reverse] at h
theorem applyP_all{s:List UInt8}{N:Nat}(hs:s.length=128*N)(l:List Pt):inP N l->(applyP s l).length=128*N/\∀i:Nat,i<N->celX (applyP s l) i=((lastP l (i:Int)).map (·.2)).getD (celX s i):=by
 refine rev_ind (p:=fun l=>inP N l->(applyP s l).length=128*N/\∀i:Nat,i<N->celX (applyP s l) i=((lastP l (i:Int)).map (·.2)).getD (celX s i)) (fun _=>⟨hs,fun i _=>rfl⟩) (fun l x ih hin=>?_) l
 obtain⟨h1,h2,h3,h4⟩:=inP_snoc.1 hin
 obtain⟨k1,k2⟩:=ih h1
 rw[applyP_snoc]
 refine⟨setC_len k1 E9 h4,fun i hi=>?_⟩
 rw[celX_setC k1 E9 h4,M5]
 by_cases he:x.1=(i:Int)
 ·rw[if_pos E9,if_pos he];rfl
 ·rw[if_neg E9,if_neg he];exact k2 i hi
theorem Z8{s:List UInt8}{N:Nat}(hs:s.length=128*N){l:List Pt}(h:inP N l):(applyP s l).length=128*N:=(applyP_all hs l h).1
theorem A0p{s:List UInt8}{N:Nat}(hs:s.length=128*N){l:List Pt}(h:inP N l){i:Nat}(hi:i<N):celX (applyP s l) i=((lastP l (i:Int)).map (·.2)).getD (celX s i):=(applyP_all hs l h).2 i hi
def shiftP(b:Int)(l:List Pt):List Pt:=l.map fun x=>(b+x.1,x.2)
theorem shiftP_len(b:Int)(l:List Pt):(shiftP b l).length=l.length:=by unfold shiftP;rw[A3u]
theorem lastP_shift(b a:Int)(l:List Pt):lastP (shiftP b l) (b+a)=(lastP l a).map fun x=>(b+x.1,x.2):=by
 refine rev_ind (p:=fun l=>lastP (shiftP b l) (b+a)=(lastP l a).map fun x=>(b+x.1,x.2)) rfl (fun l x ih=>?_) l
 have e:shiftP b (l++[x])=shiftP b l++[(b+x.1,x.2)]:=by unfold shiftP;rw[A3J];rfl
 rw[e,M5,M5,ih]
 dsimp only
 by_cases h:x.1=a
 ·rw[if_pos h,if_pos E9];rfl
 ·rw[if_neg h,if_neg E9]
theorem O5{l:List Pt}{a:Int}(h:∀x∈l,x.1≠a):lastP l a=none:=by
 cases hl:lastP l a with
 | none=>rfl
 | some x=>exact absurd (K8 hl).1 (h x (K8 hl).2)
theorem lastP_merge{l R:List Pt}(h:IsMerge l R)(a:Int):lastP R a=lastP l a:=by
 cases hl:lastP l a with
 | some x =>
  have hx:=(K8 hl).1
  have hR:x∈R:=(h.2 x).2 (by rw[hx];exact hl)
  cases hr:lastP R a with
  | none =>
   obtain⟨y,hy⟩:=lastP_mem hR
   rw[hx,hr] at hy;cases hy
  | some y =>
   have hy:=K8 hr
   have h2:=(h.2 y).1 hy.2
   rw[hy.1,hl] at h2
   exact h2.symm
 | none =>
  refine O5 fun y hy e=>?_
  have h2:=(h.2 y).1 hy
  rw[e,hl] at h2;cases h2
end
section
open Go.ChangeShapes Go.WideShapes Go.ChangeAt Go.RowKit
attribute [local irreducible] wpList wpListIn Oper.quietAt wpM
theorem okP_sub{l R:List Pt}(h:okP l)(hR:∀x∈R,x∈l):okP R:=fun x hx=>h x (hR x hx)
end
section
open Go.RowKit
def IterL(P:Program)(gf:Nat)(lb:Array Value){α:Type}(arg:α->Array Value)(nxt:List α->α->Prop)(fin:List α->Prop)(R:List Nat)(W0:World):Prop :=
 ∀(l:Nat)(J:List α->List (Nat × Obj)->Prop)(Jx:List (Nat × Obj)->Prop)(W:World)(L0:List (Nat × Obj)),
  Below W0.heap.size W0 W->(∀b∈R,b∉L0.map (·.1))->J [] L0->Holds W L0 ->
  (∀k x L W1,J k L->Rd L0 W L W1->nxt k x ->
   YieldAt Fence.wide 0 P l (arg x) W1 fun e W2=>∃L2,Rd L W1 L2 W2/\((e=.returned (.bool true)/\J (k++[x]) L2)\/(e=.returned (.bool false)/\Jx L2))) ->
  Calls P gf (#[.func (.yield l) #[] #[]]++lb) W fun e W'=>(∃v,e=.returned v)/\∃L',Rd L0 W L' W'/\((∃k,fin k/\J k L')\/Jx L')
theorem wp_range2L{P:Program}{g:Operand}{ps:Array Tmp}{assign body:Code}{Q:Exit->Act->World->Prop}{a:Act}{w:World}
  {gf:Nat}{lb:Array Value}(hg:a.eval g=.func (.func gf) #[] lb)(eg:∀args w,(callFunc gf args).run P w=.ok (.enter gf args) w)
  {α:Type}{arg:α->Array Value}{nxt:List α->α->Prop}{fin:List α->Prop}{R:List Nat}{W0:World}(hit:IterL P gf lb arg nxt fin R W0)(hb0:Below W0.heap.size W0 w)(hps:∀x,(arg x).size=ps.size)
  (I:List α->List (Nat × Array Value × TypeId)->Prop)(Ix:Code->List (Nat × Array Value × TypeId)->Prop)
  (L0:List (Nat × Array Value × TypeId))(h0:I [] L0)(hH:Holds w (objs L0))(hR:∀b∈R,b<w.heap.size/\b∉L0.map (·.1))(A:List α->α->List (Nat × Array Value × TypeId)->List (Nat × Array Value × TypeId)->Act->Prop)
  (hassign:∀(l:Nat)(k:List α)(x:α)(L:List (Nat × Array Value × TypeId))(W:World),I k L->nxt k x->In L0 w L W->∀K:Act->World->Prop,(∀a1 L' W',In L W L' W'->A k x L L' a1->K a1 W') ->
   assign.wpIn (Fence.wide.inRound l) 0 P (Exit.then K (fun _ _ _=>False)) { tmps:=(ps.zip (arg x)).foldl (fun t (p,v)=>t.setIfInBounds p v) a.tmps,defers:=[] } W)
  (hbody:∀(l:Nat)(k:List α)(x:α)(L L':List (Nat × Array Value × TypeId))(a1:Act)(W:World),I k L->A k x L L' a1->In L0 w L' W->nxt k x->body.wpIn (Fence.wide.inRound l) 0 P (roundEnd (I (k++[x])) Ix L' W) a1 W)
  (hdone:∀(D:Nat)(n:List α)(L:List (Nat × Array Value × TypeId))(W:World),fin n->I n L->In L0 w L W->W.heap[D]?=some (.deferred (some []))->w.heap.size<=D->Q .normal { a with defers:={ target:=.collected D,args:=#[] }::a.defers } W)
  (hstop:∀(D:Nat)(c:Code)(L:List (Nat × Array Value × TypeId))(W:World),Ix c L->In L0 w L W->W.heap[D]?=some (.deferred (some []))->w.heap.size<=D->c.wp P Q { a with defers:={ target:=.collected D,args:=#[] }::a.defers } W) :
  (Code.rangeFunc g ps assign body).wp P Q a w:=by
 refine(wpIn_wide (n:=0)).1 (wpIn_rangeFunc ?_)
 intro fn hfn
 obtain⟨rec,hrec⟩:∃rec:LoopState->Option Code->Loop,rec=fun st pe=>{ state:=st,pending:=pe,fn,tmps:=a.tmps,params:=ps,assign,body,defers:=w.heap.size }:=⟨_,rfl⟩
 obtain⟨W1,hW1⟩:∃W1,(w.alloc (.deferred (some []))).alloc (.loop (rec .ready none))=W1:=⟨_,rfl⟩
 have hL1:W1.heap[w.heap.size+1]?=some (.loop (rec .ready none)):=by
  rw[<-hW1];have:=World.alloc_heap_new (w.alloc (.deferred (some []))) (.loop (rec .ready none));rwa [World.size_alloc] at this
 have hK1:W1.heap[w.heap.size]?=some (.deferred (some [])):=by
  rw[<-hW1];exact(Below.heap_alloc _ _ _ F0).trans (World.alloc_heap_new w _)
 have hbW:Below w.heap.size w W1:=by rw[<-hW1];exact((Below.refl _ w).alloc (A3t _) _).alloc F0 _
 have hb1:Below W0.heap.size W0 W1:=hb0.trans (hbW.mono hb0.size)
 have hHk:Holds W1 (objs L0):=hH.kept (B:=[]) (Kept.of_below hbW) (fun _ _=>A3W)
 have hn1:∀m,w.heap.size<=m->m∉L0.map (·.1):=fun m hm0 hm=>by
  rw[<-J2] at hm
  obtain⟨x,hx,he⟩:=A3C.1 hm
  have:=hH.lt hx;omega
 have hF0:Holds W1 ([(w.heap.size+1,.loop (rec .ready none)),(w.heap.size,.deferred (some []))]++objs L0):=by
  refine⟨fun x hx=>?_,?_⟩
  ·simp only[A3F,A3q,A3G] at hx
   rcases hx with rfl|rfl|hx
   ·exact hL1
   ·exact hK1
   ·exact hHk.1 x hx
  ·have:=hH.2
   rw[J2] at this
   simp only[A3F,A3q,A3X,J2,A4a,A3G,not_or]
   exact⟨⟨by omega,hn1 _ E9⟩,hn1 _ (A3t _),this⟩
 have hE0:∀x∈[(w.heap.size+1,Obj.loop (rec .ready none)),(w.heap.size,.deferred (some []))],w.heap.size<=x.1:=by
  intro x hx
  simp only[A3G,A3W,or_false] at hx
  rcases hx with rfl|rfl
  ·exact Nat.le_succ _
  ·exact A3t _
 refine⟨w.heap.size+1,[{ target:=.collected w.heap.size,args:=#[] }],W1,{ target:=.fn (.func gf) lb,args:=#[.func (.yield (w.heap.size+1)) #[] #[]] },W1,gf,
  #[.func (.yield (w.heap.size+1)) #[] #[]]++lb,W1,?_,?_,fun _ _=>trivial,?_,(fun h=>by cases h),?_⟩
 ·rw[<-hW1,hrec];exact run_enterLoop_outer _ _ _ _ _
 ·simp only[resolve,hg]
  simp[go_sem]
 ·simp[invoke,go_sem,eg]
 ·refine callsIn_wide.2 ?_
  refine(hit (w.heap.size+1)
   (fun k L'=>∃L,L'=[(w.heap.size+1,.loop (rec .ready none)),(w.heap.size,.deferred (some []))]++objs L/\I k L)
   (fun L'=>∃L c,L'=[(w.heap.size+1,.loop (rec .done (some c))),(w.heap.size,.deferred (some []))]++objs L/\Ix c L)
   W1 ([(w.heap.size+1,.loop (rec .ready none)),(w.heap.size,.deferred (some []))]++objs L0) hb1 ?_ ⟨L0,rfl,h0⟩ hF0 ?_).mono ?_
  ·intro b hb
   obtain⟨h1,h2⟩:=hR b hb
   simp only[A3F,A3q,A3X,J2,A3G,not_or]
   exact⟨by omega,by omega,h2⟩
  · -- ONE ROUND
   rintro k x L' W ⟨L,rfl,hI⟩ hRd hkn
   have hl:W.heap[w.heap.size+1]?=some (.loop (rec .ready none)):=hRd.holds.1 _ (A3m ..)
   have hy:=run_yield (P:=P) (args:=arg x) hl (by rw[hrec];exact hps x)
   rw[hrec] at hy
   have hIn0:In L0 w L W:=R5 (E0:=[(w.heap.size+1,.loop (rec .ready none)),(w.heap.size,.deferred (some []))]) (E:=[(w.heap.size+1,.loop (rec .ready none)),(w.heap.size,.deferred (some []))]) hbW rfl hE0 hRd
   refine⟨fn,_,assign,body,hy,roundIn_of_wpIn hfn (hassign _ k x L W hI hkn hIn0 _ fun a1 L' W' hA hAA=>?_)⟩
   have hfA:=Rd.frame (E:=[(w.heap.size+1,.loop (rec .ready none)),(w.heap.size,.deferred (some []))]) hA.rd hRd.holds
   have hl':W'.heap[w.heap.size+1]?=some (.loop (rec .ready none)):=hfA.holds.1 _ (A3m ..)
   refine⟨_,run_beginRound hl' (by rw[hrec]),?_⟩
   have hRd2:=Rd.put (L:=(w.heap.size,.deferred (some []))::objs L') (hRd.trans hfA) (.loop { rec .ready none with state:=.busy })
   have hs2:=Rd.put (L:=(w.heap.size,.deferred (some []))::objs L') hfA (.loop { rec .ready none with state:=.busy })
   generalize W'.putObj (w.heap.size+1) (.loop { rec .ready none with state:=.busy })=W2 at *
   have hIn:In L0 w L' W2:=R5 (E0:=[(w.heap.size+1,.loop (rec .ready none)),(w.heap.size,.deferred (some []))]) (E:=[(w.heap.size+1,.loop { rec .ready none with state:=.busy }),(w.heap.size,.deferred (some []))]) hbW rfl hE0 hRd2
   refine wpIn_mono (hbody _ k x L L' a1 W2 hI hAA hIn hkn) ?_
   have fin:∀(jump:Option Code)(L2:List (Nat × Array Value × TypeId))(W3:World),In L' W2 L2 W3 ->
     ∃W4,(Instr.endRound (w.heap.size+1) jump).run P W3=.ok (.bool jump.isNone) W4 /\
      Rd ([(w.heap.size+1,.loop (rec .ready none)),(w.heap.size,.deferred (some []))]++objs L) W ([(w.heap.size+1,.loop (rec (if jump.isNone then .ready else .done) jump)),(w.heap.size,.deferred (some []))]++objs L2) W4:=fun jump L2 W3 h3=>by
    have hf:=Rd.frame (E:=[(w.heap.size+1,.loop { rec .ready none with state:=.busy }),(w.heap.size,.deferred (some []))]) h3.rd hRd2.holds
    have hl3:W3.heap[w.heap.size+1]?=some (.loop { rec .ready none with state:=.busy }):=hf.holds.1 _ (A3m ..)
    have hr:=run_endRound (P:=P) jump hl3
    refine⟨_,hr,?_⟩
    have h5:=Rd.put (L:=(w.heap.size,.deferred (some []))::objs L2) (hs2.trans hf) (.loop (rec (if jump.isNone then .ready else .done) jump))
    rw[hrec] at h5 |-
    exact h5
   rintro e a3 W3 hp
   cases e with
   | normal =>
    obtain⟨L2,h3,hi3⟩:=hp
    obtain⟨W4,hr,h4⟩:=fin none L2 W3 h3
    exact⟨_,_,hr,_,h4,.inl ⟨rfl,L2,rfl,hi3⟩⟩
   | ret =>
    obtain⟨L2,h3,hi3⟩:=hp
    obtain⟨W4,hr,h4⟩:=fin (some .ret) L2 W3 h3
    exact⟨_,_,hr,_,h4,.inr ⟨rfl,L2,.ret,rfl,hi3⟩⟩
   | exit id =>
    obtain⟨L2,h3,hi3⟩:=hp
    obtain⟨W4,hr,h4⟩:=fin (some (.exit id)) L2 W3 h3
    exact⟨_,_,hr,_,h4,.inr ⟨rfl,L2,.exit id,rfl,hi3⟩⟩
   | goto t =>
    obtain⟨L2,h3,hi3⟩:=hp
    obtain⟨W4,hr,h4⟩:=fin (some (.goto t)) L2 W3 h3
    exact⟨_,_,hr,_,h4,.inr ⟨rfl,L2,.goto t,rfl,hi3⟩⟩
   | panic ch=>exact hp.elim
   | outgrown=>exact hp.elim
  · -- BEHIND THE ITERATOR
   rintro e W2 ⟨⟨v,rfl⟩,L',hRd,(⟨n,hN,L,rfl,hI⟩|⟨L,c,rfl,hI⟩)⟩
   ·have hl:W2.heap[w.heap.size+1]?=some (.loop (rec .ready none)):=hRd.holds.1 _ (A3m ..)
    have hr:=run_endLoop (P:=P) hl (by rw[hrec];simp)
    have hR2:=Rd.put (L:=(w.heap.size,.deferred (some []))::objs L) hRd (.loop (rec .exhausted (none)))
    rw[show ({ rec .ready none with state:=.exhausted }:Loop)=rec .exhausted (none) by rw[hrec],show (rec .ready none).pending=none by rw[hrec]] at hr
    refine⟨none,_,hr,?_⟩
    exact hdone w.heap.size n L _ hN hI (R5 (E0:=[(w.heap.size+1,.loop (rec .ready none)),(w.heap.size,.deferred (some []))]) (E:=[(w.heap.size+1,.loop (rec .exhausted (none))),(w.heap.size,.deferred (some []))]) hbW rfl hE0 hR2) (hR2.holds.1 _ (A3l _ (A3m ..))) (A3t _)
   ·have hl:W2.heap[w.heap.size+1]?=some (.loop (rec .done (some c))):=hRd.holds.1 _ (A3m ..)
    have hr:=run_endLoop (P:=P) hl (by rw[hrec];simp)
    have hR2:=Rd.put (L:=(w.heap.size,.deferred (some []))::objs L) hRd (.loop (rec .exhausted (some c)))
    rw[show ({ rec .done (some c) with state:=.exhausted }:Loop)=rec .exhausted (some c) by rw[hrec],show (rec .done (some c)).pending=some c by rw[hrec]] at hr
    refine⟨some c,_,hr,?_⟩
    exact(wpIn_wide (n:=0)).2 (hstop w.heap.size c L _ hI (R5 (E0:=[(w.heap.size+1,.loop (rec .ready none)),(w.heap.size,.deferred (some []))]) (E:=[(w.heap.size+1,.loop (rec .exhausted (some c))),(w.heap.size,.deferred (some []))]) hbW rfl hE0 hR2) (hR2.holds.1 _ (A3l _ (A3m ..))) (A3t _))
theorem wp_range_boxL{P:Program}{g:Operand}{ps:Array Tmp}{assign body:Code}{Q:Exit->Act->World->Prop}{a:Act}{w:World}
  {gf:Nat}{lb:Array Value}(hg:a.eval g=.func (.func gf) #[] lb)(eg:∀args w,(callFunc gf args).run P w=.ok (.enter gf args) w)
  {α:Type}{arg:α->Array Value}{nxt:List α->α->Prop}{fin:List α->Prop}{R:List Nat}{W0:World}(hit:IterL P gf lb arg nxt fin R W0)(hb0:Below W0.heap.size W0 w)(hps:∀x,(arg x).size=ps.size)
  (I:List α->List (Nat × Array Value × TypeId)->Prop)(Ix:Code->List (Nat × Array Value × TypeId)->Prop)
  (L0:List (Nat × Array Value × TypeId))(h0:I [] L0)(hH:Holds w (objs L0))(hR:∀b∈R,b<w.heap.size/\b∉L0.map (·.1))(bx:α->Array Value)(bt:TypeId)(act1:α->Nat->Act)
  (hassign:∀(l:Nat)(k:List α)(x:α)(L:List (Nat × Array Value × TypeId))(W:World),I k L->nxt k x->In L0 w L W->∀K:Act->World->Prop,(∀b W',In L W ((b,bx x,bt)::L) W'->K (act1 x b) W') ->
   assign.wpIn (Fence.wide.inRound l) 0 P (Exit.then K (fun _ _ _=>False)) { tmps:=(ps.zip (arg x)).foldl (fun t (p,v)=>t.setIfInBounds p v) a.tmps,defers:=[] } W)
  (hbody:∀(l:Nat)(k:List α)(x:α)(L:List (Nat × Array Value × TypeId))(b:Nat)(W:World),I k L->In L0 w ((b,bx x,bt)::L) W->nxt k x->body.wpIn (Fence.wide.inRound l) 0 P (roundEnd (I (k++[x])) Ix ((b,bx x,bt)::L) W) (act1 x b) W)
  (hdone:∀(D:Nat)(n:List α)(L:List (Nat × Array Value × TypeId))(W:World),fin n->I n L->In L0 w L W->W.heap[D]?=some (.deferred (some []))->w.heap.size<=D->Q .normal { a with defers:={ target:=.collected D,args:=#[] }::a.defers } W)
  (hstop:∀(D:Nat)(c:Code)(L:List (Nat × Array Value × TypeId))(W:World),Ix c L->In L0 w L W->W.heap[D]?=some (.deferred (some []))->w.heap.size<=D->c.wp P Q { a with defers:={ target:=.collected D,args:=#[] }::a.defers } W) :
  (Code.rangeFunc g ps assign body).wp P Q a w:=by
 refine wp_range2L hg eg hit hb0 hps I Ix L0 h0 hH hR (fun k x L L' a=>∃b,L'=(b,bx x,bt)::L/\a=act1 x b) (fun l k x L W hI hn hIn K hK=>hassign l k x L W hI hn hIn K fun b W' hW=>hK _ _ _ hW ⟨b,rfl,rfl⟩) ?_ hdone hstop
 rintro l k x L L' a1 W hI ⟨b,rfl,rfl⟩ hIn hN
 exact hbody l k x L b W hI hIn hN
end
section
open Go.ChangeShapes Go.WideShapes Go.ChangeAt Go.RowKit
attribute [local irreducible] wpList wpListIn Oper.quietAt wpM
attribute [local irreducible] tagL
theorem A3d{n:Int}(h0 : -9223372036854775808<=n)(h:n<=9223372036854775807):wrap64 (beN (beB (u64W n) 8):Int)=n:=by
 have e:(256:Nat) ^ 8=18446744073709551616:=by decide +kernel
 rw[beN_beB,e]
 unfold u64W wrap64
 omega
end
section
open Go.ChangeShapes Go.WideShapes Go.ChangeAt Go.RowKit
attribute [local irreducible] wpList wpListIn Oper.quietAt wpM
open Go.Maps
section
theorem hdV_inj{a b:Int}{C E:List UInt8}(h:hdV a C=hdV b E):a=b/\C=E:=by
 have h1:(Value.int .i64 a::C.map bv)=(Value.int .i64 b::E.map bv):=by
  have:=congrArg Array.toList h
  simpa[hdV] using this
 rw[List.cons.injEq] at h1
 refine⟨by simpa using h1.1,?_⟩
 have h2:=h1.2
 exact bvs_inj (by unfold bvs;rw[h2])
def okX(x:Pt):Prop:=x.2.length=128/\(-9223372036854775808<=x.1/\x.1<=9223372036854775807)
def dP(x:Pt):DataW Unit:=.lit (.string (x.2++beB (u64W x.1) 8))
theorem dP_inj{x y:Pt}(hx:okX x)(hy:okX y)(h:dP x=dP y):x=y:=by
 unfold dP at h
 simp only[DataW.lit.injEq,Lit.string.injEq] at h
 obtain⟨h1,h2⟩:=List.append_inj h (by rw[hx.1,hy.1])
 have e1:=A3d hx.2.1 hx.2.2
 have e2:=A3d hy.2.1 hy.2.2
 rw[h2,e2] at e1
 exact Prod.ext e1.symm h1
def RdSpec(rd:Value->Option (DataW Unit × List MemPlace)):Prop:=(∀x,okX x->rd (.agg (hdV x.1 x.2))=some (dP x,[]))/\∀v y,rd v=some y->∃x,okX x/\v=.agg (hdV x.1 x.2)/\y=(dP x,[])
theorem rd_exists:∃rd,RdSpec rd:=by
 classical
 refine⟨fun v=>if h:∃x:Pt,okX x/\v=.agg (hdV x.1 x.2) then some (dP h.choose,[]) else none,fun x hx=>?_,fun v y hy=>?_⟩
 ·have h:∃z:Pt,okX z/\Value.agg (hdV x.1 x.2)=.agg (hdV z.1 z.2):=⟨x,hx,rfl⟩
  dsimp only
  rw[dif_pos h]
  have h2:=h.choose_spec
  have h3:hdV x.1 x.2=hdV h.choose.1 h.choose.2:=by simpa using h2.2
  obtain⟨e1,e2⟩:=hdV_inj h3
  rw[show h.choose=x from Prod.ext e1.symm e2.symm]
 ·dsimp only at hy
  split at hy
  ·rename_i h
   cases hy
   exact⟨h.choose,h.choose_spec.1,h.choose_spec.2,rfl⟩
  ·cases hy
namespace MP
abbrev mapAt(rd:Value->Option (DataW Unit × List MemPlace))(w:World)(B n:Nat)(D:DataW Unit):Prop:=w.ownsMap Tryz.prog 3 rd B n D
theorem map_kept{rd:Value->Option (DataW Unit × List MemPlace)}{w w':World}{B n:Nat}{D:DataW Unit}(h:mapAt rd w B n D)(hb:w'.heap[B]?=w.heap[B]?):mapAt rd w' B n D:=by
 obtain⟨es,clock,h1,h2⟩:=h
 exact⟨es,clock,hb.trans h1,h2⟩
theorem map_obj{rd:Value->Option (DataW Unit × List MemPlace)}{w:World}{B n:Nat}{D:DataW Unit}(h:mapAt rd w B n D):B<w.heap.size/\∀cs t fr,w.heap[B]?≠some (.cells cs t fr):=by
 obtain⟨es,clock,h1,h2⟩:=h
 exact⟨(A3y.1 h1).1,fun cs t fr e=>by rw[h1] at e;cases e⟩
def StM(rd:Value->Option (DataW Unit × List MemPlace))(w0:World)(B n:Nat)(D:DataW Unit)(w:World)(L:List Blk):Prop:=St w0 w L/\mapAt rd w B n D/\w0.heap.size<=B
theorem own_stM{rd:Value->Option (DataW Unit × List MemPlace)}{w0:World}{B n:Nat}{D:DataW Unit}:Own w0.heap.size (StM rd w0 B n D) where
 blk:=fun i _ _ _ h hi=>h.1.blk i hi
 call:=fun h hb=>⟨h.1.call hb,map_kept h.2.1 (hb.block B (map_obj h.2.1).1),h.2.2⟩
 alloc:=fun cs t h=>⟨h.1.alloc cs t,map_kept h.2.1 (Below.heap_alloc _ _ _ (map_obj h.2.1).1),h.2.2⟩
 setRow:=fun {w} {L} i {b} {cs} {t} cs' h hi=>⟨h.1.setRow i hi cs',map_kept h.2.1 (setRow_other w b B cs' (fun e=>by
  have h1:w.heap[b]?=some (.cells cs t (0,0)):=h.1.blk i hi
  exact(map_obj h.2.1).2 _ _ _ (e ▸ h1))),h.2.2⟩
 size:=fun h=>h.1.1.size
 add:=fun h hW hg hn hb=>⟨h.1.add (A3T hW.1.1.size hg) hn hb,h.2⟩
 nodup:=fun h=>h.1.2.2
 sub:=fun h hx hn=>⟨⟨h.1.1,fun x hm=>h.1.2.1 x (hx x hm),hn⟩,h.2⟩
theorem StM.far{rd:Value->Option (DataW Unit × List MemPlace)}{w0 wr:World}{B n:Nat}{D:DataW Unit}{L:List Blk}(h:StM rd w0 B n D wr L){b:Nat}{cs:Array Value}{t:TypeId}{fr:Nat × Nat}(hb:Go.Proofs.YtlfbfbbdpcihfaaGreat.blk w0 b=some (.cells cs t fr)):Go.Proofs.YtlfbfbbdpcihfaaGreat.blk wr b=some (.cells cs t fr)/\(∀o,wr.cell? ⟨b,o,none⟩=cs[o]?)/\b<w0.heap.size/\b<wr.heap.size/\¬b=wr.heap.size:=h.1.far hb
variable{rd:Value->Option (DataW Unit × List MemPlace)}{ops:Array Oper}{Q:Exit->Act->World->Prop}{o:Oper}{rest:List Oper}{a:Act}{w w0:World}{L:List Blk}
theorem s_makeMap{t:TypeId}(hS:St w0 w L)(hw:Region.wanted o (yielded ops a.tmps)=true)(hop:o.op=.makeMap t none)(hk:∀B w',StM rd w0 B 0 (.map []) w' L->wpList Tryz.prog ops Q rest (a.put o.dst (.map (some B))) w'):wpList Tryz.prog ops Q (o::rest) a w:=by
 refine stp_list.go hw D5 (v:=.map (some w.heap.size)) (w':=w.alloc (.map #[] 0)) ?_ (hk _ _ ⟨hS.call ((Below.refl _ _).alloc (A3t _) _),World.ownsMap_made _ _ _ _,hS.1.size⟩)
 unfold execOp;rw[hop]
 rfl
theorem s_update{m x v:Operand}{t:TypeId}{B n:Nat}{D:DataW Unit}{k:Int}{z:Pt}(hrd:RdSpec rd)(hS:StM rd w0 B n D w L)(hg:o.guard=none)(hop:o.op=.mapUpdate t m x v)(ht:Tryz.prog.underlying t=some (.map 3 244))(hn:n<1000000)(hm:evO a m=some (.map (some B)))(hx:evO a x=some (.int .i64 k))(hv:evO a v=some (.agg (hdV z.1 z.2)))(hk1 : -9223372036854775808<=k/\k<=9223372036854775807)(hz:okX z)
  (hk:∀w',StM rd w0 B (n+1) (D.put (.int .i64 k) (dP z)) w' L->wpList Tryz.prog ops Q rest (a.put o.dst undef) w'):wpList Tryz.prog ops Q (o::rest) a w:=by
 refine wpList_mapUpdate_own w hg m x v t hop 3 244 (int_keyed Tryz.underlying3) ht _ B n D (F4 hm) hS.2.1 D9 _ _ _ (F4 hx) (F4 hv) (keyOf_int_mk Tryz.underlying3 (i64_wf hk1)) _ [] (hrd.1 z hz) ?_
 intro w' h1 h2
 refine hk w' ⟨?_,h1,hS.2.2⟩
 obtain⟨hb,hl,hnd⟩:=hS.1
 have hbelow:Below w0.heap.size w w':=⟨h2.os,h2.tape,h2.output,h2.size,fun k hk=>h2.block k (A4P hk hb.size) (fun e=>by cases e;exact Nat.lt_irrefl _ (A4P hk hS.2.2))⟩
 refine⟨hb.trans hbelow,fun y hy=>⟨(hl y hy).1,?_⟩,hnd⟩
 have h3:=(hl y hy).2
 have h4:y.1<w.heap.size:=G1 h3
 refine(h2.block y.1 h4 (fun e=>?_)).trans h3
 cases e
 exact(map_obj hS.2.1).2 _ _ _ h3
end MP
end
section
def MapOf(l:List Pt)(D:DataW Unit):Prop:=IsMap D/\(∀a x,lastP l a=some x->∀z,D.atKey (.int .i64 a) z=dP x)/\(∀a,lastP l a=none->∀z,D.atKey (.int .i64 a) z=z)
theorem mapOf_nil:MapOf [] (.map []):=⟨⟨[],rfl⟩,fun a x h=>by simp[lastP] at h,fun a _ z=>rfl⟩
theorem mapOf_snoc{l:List Pt}{D:DataW Unit}(h:MapOf l D)(x:Pt):MapOf (l++[x]) (D.put (.int .i64 x.1) (dP x)):=by
 obtain⟨h1,h2,h3⟩:=h
 refine⟨h1.put _ _,fun a y hy z=>?_,fun a hy z=>?_⟩
 ·rw[M5] at hy
  by_cases he:x.1=a
  ·rw[if_pos he] at hy
   cases hy
   rw[<-he]
   exact atKey_put_same h1 (by trivial) _ _
  ·rw[if_neg he] at hy
   rw[atKey_put_other (fun e=>he (by cases e;rfl))]
   exact h2 a y hy z
 ·rw[M5] at hy
  by_cases he:x.1=a
  ·rw[if_pos he] at hy;cases hy
  ·rw[if_neg he] at hy
   rw[atKey_put_other (fun e=>he (by cases e;rfl))]
   exact h3 a hy z
theorem mapOf_has{l:List Pt}{D:DataW Unit}(h:MapOf l D)(a:Int):has D (.int .i64 a)=true↔∃x,lastP l a=some x:=by
 constructor
 ·intro hh
  cases hl:lastP l a with
  | some x=>exact⟨x,rfl⟩
  | none=>rw[has_false_of_atKey (h.2.2 a hl)] at hh;cases hh
 ·rintro⟨x,hx⟩
  exact has_true_of_atKey (h.2.1 a x hx)
def vNext(l pre:List Pt)(x:Pt):Prop:=lastP l x.1=some x/\∀y∈pre,y.1≠x.1
def vAll(l pre:List Pt):Prop:=∀a x,lastP l a=some x->x∈pre
theorem A1S{P:Program}{k:TypeId}{R:Value->Option (DataW Unit × List MemPlace)}{w w':World}{b r n:Nat}{D:DataW Unit}{left:Lit->Bool}{cnt:Nat}(h:w.ranges P k R b r n D left cnt)(hb:w'.heap[b]?=w.heap[b]?)(hr:w'.heap[r]?=w.heap[r]?):w'.ranges P k R b r n D left cnt:=by
 obtain⟨es,clock,since,seen,c0,h1,h2,h3,h4,h5,h6⟩:=h
 exact⟨es,clock,since,seen,c0,hb.trans h1,h2,h3,h4,hr.trans h5,h6⟩
theorem r_entry{P:Program}{o:Oper}{a:Act}{w:World}{x:Operand}{u v:Value}(hop:o.op=.entry x)(hx:evO a x=some u)(hen:(Instr.entry u).run P w=.ok v w):(execOp a.eval o).run P w=.ok (.value v) w:=by
 unfold execOp;rw[hop]
 simp[F4 hx,hen]
theorem values1_iter{rd:Value->Option (DataW Unit × List MemPlace)}(hrd:RdSpec rd)(l:List Pt)(ho:okP l)(Bmm B n:Nat)(D:DataW Unit)(W0:World){t:TypeId}{fr:Nat × Nat}(hm:blk W0 Bmm=some (.cells #[.map (some B)] t fr))(hown:MP.mapAt rd W0 B n D)(hD:MapOf l D) :
  IterL Tryz.prog 292 #[.pointer (some ⟨Bmm,0,none⟩)] (fun x:Pt=>#[.agg (hdV x.1 x.2)]) (vNext l) (vAll l) [Bmm,B] W0:=by
 intro lb J Jx W L0 hbW hR hJ0 hH hY
 have hBm:Bmm∉L0.map (·.1):=hR Bmm (A3m ..)
 have hBn:B∉L0.map (·.1):=hR B (A3l _ (A3m ..))
 have hmW:blk W Bmm=some (.cells #[.map (some B)] t fr):=(hbW.block Bmm (G1 hm)).trans hm
 have howW:MP.mapAt rd W B n D:=MP.map_kept hown (hbW.block B (MP.map_obj hown).1)
 clear hbW hR hm hown
 refine(callsIn_wide (n:=1)).1 ?_
 refine callsIn_of_wp Tryz.func292 rfl trivial ?_ rfl
 simp only[Tryz.ntmps292,A3R,A3D,A3S,Nat.reduceAdd,Nat.reduceSub,A4h,A4i,A4t,A4l,A3q,A3F]
 have hS:=St.start W
 refine ZyVm ?_;intro _ _ _
 refine wpListIn_range_own _ F1 _ 395 F1 3 244 (int_keyed Tryz.underlying3) Tryz.underlying395 rd B n D F1 howW ?_
 intro w1 hrg hg1 hs1
 refine F2 ?_
 have hr0:W.heap.size∉L0.map (·.1):=fun hm=>by
  obtain⟨x,hx,he⟩:=A3C.1 hm
  have:=hH.lt hx
  omega
 have hRd0:Rd L0 W L0 w1:=by
  refine .call hH ⟨hg1.os,hg1.tape,hg1.output,hg1.size,fun k hk=>hg1.block k hk F0⟩
 refine ZdVm ?_;show _
 gi_loopw [4] (fun _ wr=>∃(left:Lit->Bool)(cnt:Nat)(pre:List Pt)(L:List (Nat × Obj)),wr.ranges Tryz.prog 3 rd B W.heap.size n D left cnt/\(∀a:Int,left (.int .i64 a)=(has D (.int .i64 a) && !(pre.any fun y=>y.1 == a)))/\(∀y∈pre,lastP l y.1=some y)/\J pre L/\Rd L0 W L wr/\W.heap.size∉L.map (·.1))
  (fun _ wr=>wr.rangeLeft B W.heap.size)
 case atStart=>exact⟨_,_,[],L0,hrg,fun a=>by simp,by simp,hJ0,hRd0,hr0⟩
 case round =>
  clear hS
  obtain⟨left,cnt,pre,L,hrg,hleft,hpre,hJ,hRd,hrL⟩:=hrel
  have hS:=St.start wr
  refine ZdVm ?_;intro _ _ _
  refine wpListIn_next_ranges _ F1 _ F1 3 (int_keyed Tryz.underlying3) rd (Value.int .i64) Value.agg (fun key kl hk=>by
   obtain⟨x,hx,_⟩:=Maps.keyOf_int_inv Tryz.underlying3 hk
   exact⟨x,hx⟩) (fun v y hv=>by
   obtain⟨x,_,rfl,_⟩:=hrd.2 v y hv
   exact⟨_,rfl⟩) B W.heap.size n _ _ _ F1 hrg ?_ ?_
  ·intro hc0 hl0
   refine F2 ?_
   have hall:vAll l pre:=fun a x hx=>by
    have h1:=hleft a
    rw[hl0,(mapOf_has hD a).2 ⟨x,hx⟩,Bool.true_and] at h1
    have h2:(pre.any fun y=>y.1 == a)=true:=by
     cases hq:(pre.any fun y=>y.1 == a) with
     | true=>rfl
     | false=>rw[hq] at h1;cases h1
    obtain⟨y,hy,he⟩:=A5H.1 h2
    have he':y.1=a:=by simpa using he
    have h3:=hpre y hy
    rw[he',hx] at h3
    cases h3
    exact hy
   refine ZdVm ?_;intro _ _
   refine bodyPost_end (results_none rfl _ _ _) rfl ?_
   exact⟨⟨_,rfl⟩,L,hRd,.inl ⟨pre,hall,hJ⟩⟩
  ·intro a cs kl yd w2 cnt2 hkey hlk hv hat hrg2 hlt hg2 hs2 hen
   obtain⟨a',e1,rfl,_⟩:=Maps.keyOf_int_inv Tryz.underlying3 hkey
   cases e1
   obtain⟨x,hx,hvx,rfl⟩:=hrd.2 _ _ hv
   cases hvx
   have hlx:lastP l a=some x:=by
    cases hq:lastP l a with
    | none =>
     have h1:=hD.2.2 a hq (.lit (.int .i64 0))
     rw[hat] at h1
     unfold dP at h1
     cases h1
    | some x' =>
     have h1:=hD.2.1 a x' hq (.lit (.int .i64 0))
     rw[hat] at h1
     rw[dP_inj (ho x' (K8 hq).2) hx h1.symm]
   have hxa:=(K8 hlx).1
   have hnot:∀y∈pre,y.1≠x.1:=fun y hy e=>by
    have h1:=hleft a
    rw[hlk,(mapOf_has hD a).2 ⟨x,hlx⟩,Bool.true_and] at h1
    have h2:(pre.any fun y=>y.1 == a)=true:=A5H.2 ⟨y,hy,by simp[e,hxa]⟩
    rw[h2] at h1
    cases h1
   subst hxa
   have hnx:vNext l pre x:=⟨hlx,hnot⟩
   have hRd2:Rd L0 W L w2:=⟨⟨fun z hz=>(hg2.block z.1 (hRd.holds.lt hz) (fun e=>hrL (A3C.2 ⟨z,hz,Option.some.inj e⟩))).trans (hRd.holds.1 z hz),hRd.holds.2⟩,
    ⟨hg2.os.trans hRd.kept.os,hg2.tape.trans hRd.kept.tape,hg2.output.trans hRd.kept.output,A3T hRd.kept.size hg2.size,fun k hk hn=>(hg2.block k (A4P hk hRd.kept.size) (fun e=>by cases e;exact Nat.lt_irrefl _ hk)).trans (hRd.kept.block k hk hn)⟩,hRd.fresh⟩
   replace hS:=St.start w2
   have hrlt:W.heap.size<w2.heap.size:=hrg2.lt
   have hyk:=fun W=>hY pre x L W hJ
   have s1:csz (hdV x.1 x.2)=129:=by rw[J3,hx.1]
   have s2:csz (hdV 0 (zs 128))=129:=by rw[J3,zs_len]
   refine F2 ?_
   repeat' (first|refine ZaVm ?_|(refine ZkV ?_;clear hS;intro b w hS)|(refine Zli ?_;first|(refine Stp.go F5 F1 F1 (r_entry F1 F1 hen) ?_;refine F2 ?_)|(refine I1 F5 own_st hS ?_ (hv:=N3 _ _);clear hS;intro w hS;refine F2 ?_))|(refine Zi ?_;gi_step)|fail)
   have hRd1:=hRd2.trans (.call hRd2.holds hS.below)
   have hbB:=hS.below
   (refine A0N F1 F1 F1 F1 F1 (by simpa using hyk _ hRd1 hnx) ?_)
   rintro e W3 ⟨L2,hRd3,(⟨rfl,hJ2⟩|⟨rfl,hx2⟩)⟩
   ·refine⟨_,rfl,?_⟩
    refine F2 ?_
    have hRd4:=hRd1.trans hRd3
    have hBl:=(MP.map_obj howW).1
    have hrg3:W3.ranges Tryz.prog 3 rd B W.heap.size n D _ cnt2:=A1S hrg2 ((hRd4.kept.block B hBl hBn).trans (hRd2.kept.block B hBl hBn).symm) ((hRd3.kept.block _ (A4P hrlt hbB.size) hrL).trans (hbB.block _ hrlt))
    have hrL2:W.heap.size∉L2.map (·.1):=fun hm=>by
     obtain⟨z,hz,he⟩:=A3C.1 hm
     have h5:=hbB.size
     rcases hRd3.fresh z hz with h|h
     ·exact hrL (by rw[<-he];exact h)
     ·omega
    clear hS
    have hS:=St.start W3
    refine ZdVm ?_;intro _
    go_roundw
    case rel =>
     refine⟨_,cnt2,pre++[x],L2,hrg3,fun a=>?_,fun y hy=>?_,hJ2,hRd4,hrL2⟩
     ·rw[hleft a,List.any_append]
      by_cases he:x.1=a
      ·subst he;simp[Lit.sameKey]
      ·have h6:(Lit.int .i64 a).sameKey (.int .i64 x.1)=false:=sameKey_ne (fun e=>he (by cases e;rfl))
       have h7:(x.1 == a)=false:=by simpa using he
       simp[h6,h7]
     ·rcases A3Y.1 hy with hy|hy
      ·exact hpre y hy
      ·simp at hy;subst hy;exact hlx
    case measure=>rw[hrg3.left_eq,hrg.left_eq];exact hlt
   ·refine⟨_,rfl,?_⟩
    refine F2 ?_
    have hRd4:=hRd1.trans hRd3
    clear hS
    have hS:=St.start W3
    refine ZdVm ?_;intro _
    refine bodyPost_ret (results_none rfl _ _ _) rfl ?_
    exact⟨⟨_,rfl⟩,L2,hRd4,.inr hx2⟩
end
end
section
open Go.ChangeShapes Go.WideShapes Go.ChangeAt Go.RowKit
attribute [local irreducible] xorL sboxL subB sealV openV
attribute [local go_sem] Oper.semAt_some
theorem paste_bvs{a b:List UInt8}{o:Nat}(h:¬(o=0/\a.length=b.length)):paste (bvs a) o (bvs b)=bvs (a.take o++b++a.drop (o+b.length)):=by
 unfold paste
 rw[if_neg (by rw[F3,F3];exact h)]
 unfold splice bvs
 simp[A5g,A5a]
end
end Go.Proofs.YtlfbfbbdpcihfaaGreat
