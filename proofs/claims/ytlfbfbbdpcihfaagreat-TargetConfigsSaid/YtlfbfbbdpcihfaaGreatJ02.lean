/- Laws that the claim uses. No condition of their own. -/
import Derived.Test.YtlfbfbbdpcihfaaGreatJ01
set_option maxRecDepth 100000
set_option maxHeartbeats 8000000
set_option linter.all false
namespace Go.Proofs.YtlfbfbbdpcihfaaGreat
section
open Go.RowKit
inductive Kind where
 | fix (v:Value)
 | fresh (mk:Nat->Value) (cs:Array Value) (t:TypeId)
def Kind.val:Kind->Nat->Value
 | .fix v,_=>v
 | .fresh mk _ _,n=>mk n
abbrev Fact:=Nat × Array Value × TypeId
def Kind.facts(i:Nat):Kind->List Fact->List Fact
 | .fix _,F=>F
 | .fresh _ cs t,F=>(i,cs,t)::F
section
variable{P:Program}{md:Region.Mode}
def direct(md:Region.Mode)(o:Oper)(j:Nat):Bool:=o.after.any fun e=>Region.binds md e && e.on == j
def FactsAt(md:Region.Mode)(o:Oper)(F:List Fact)(b:Nat->Nat)(w:World):Prop:=∀x∈F,direct md o x.1=true->blk w (b x.1)=some (.cells x.2.1 x.2.2 (0,0))
def stepOK(P:Program)(md:Region.Mode)(ops:Array Oper)(W:World)(o:Oper)(a:(Nat->Nat)->Act)(F:List Fact):Kind->Prop
 | .fix v=>∀b w',Cls W w'->FactsAt md o F b w'->(Region.wanted o (yielded ops (a b).tmps)=true/\o.quietAt P (a b) (Below w'.heap.size w') w' v)\/(Region.wanted o (yielded ops (a b).tmps)=false/\v=undef)
 | .fresh mk cs t=>∀b w',Cls W w'->FactsAt md o F b w'->Region.wanted o (yielded ops (a b).tmps)=true/\(execOp (a b).eval o).run P w'=.ok (.value (mk w'.heap.size)) (w'.alloc (.cells cs t))
def wpM(P:Program)(md:Region.Mode)(ops:Array Oper)(W:World)(Q:((Nat->Nat)->Act)->List Fact->Prop):List Oper->Nat->((Nat->Nat)->Act)->List Fact->Prop
 | [],_,a,F=>Q a F
 | o::rest,i,a,F=>∃κ:Kind,stepOK P md ops W o a F κ/\wpM P md ops W Q rest (i+1) (fun b=>(a b).put o.dst (κ.val (b i))) (κ.facts i F)
def actT:List (Oper × Kind)->Nat->Act->(Nat->Nat)->Act
 | [],_,a,_=>a
 | x::r,i,a,b=>actT r (i+1) (a.put x.1.dst (x.2.val (b i))) b
def factsT:List (Oper × Kind)->Nat->List Fact->List Fact
 | [],_,F=>F
 | x::r,i,F=>factsT r (i+1) (x.2.facts i F)
theorem actT_snoc(x:Oper × Kind)(b:Nat->Nat):∀(L:List (Oper × Kind))(i:Nat)(a:Act),actT (L++[x]) i a b=(actT L i a b).put x.1.dst (x.2.val (b (i+L.length)))
 | [],_,_=>rfl
 | y::L,i,a=>by
  simp only[A3F,actT,actT_snoc x b L (i+1),A3D]
  rw[show i+1+L.length=i+(L.length+1) by omega]
theorem mem_factsT{f:Fact}:∀(L:List (Oper × Kind))(i:Nat)(F:List Fact),f∈factsT L i F->f∈F\/∃k o mk,L[k]?=some (o,.fresh mk f.2.1 f.2.2)/\f.1=i+k
 | [],_,_,h=>.inl h
 | x::L,i,F,h=>by
  rcases mem_factsT L (i+1) _ h with h1|⟨k,o,mk,hk,he⟩
  ·obtain⟨o,κ⟩:=x
   cases κ with
   | fix v=>exact .inl h1
   | fresh mk cs t =>
    rcases A3G.1 h1 with rfl|h2
    ·exact .inr ⟨0,o,mk,rfl,rfl⟩
    ·exact .inl h2
  ·exact .inr ⟨k+1,o,mk,by simpa using hk,by omega⟩
theorem wpM_out{ops:Array Oper}{W:World}{Q:((Nat->Nat)->Act)->List Fact->Prop}:∀(l:List Oper)(i:Nat)(a:(Nat->Nat)->Act)(F:List Fact),wpM P md ops W Q l i a F ->
  ∃L:List (Oper × Kind),L.map (·.1)=l/\(∀k x,L[k]?=some x->stepOK P md ops W x.1 (fun b=>actT (L.take k) i (a b) b) (factsT (L.take k) i F) x.2)/\Q (fun b=>actT L i (a b) b) (factsT L i F)
 | [],_,_,_,h=>⟨[],rfl,fun k x hk=>by simp at hk,h⟩
 | o::rest,i,a,F,h=>by
  obtain⟨κ,h1,h2⟩:=h
  obtain⟨L,e,h3,h4⟩:=wpM_out rest (i+1) _ _ h2
  refine⟨(o,κ)::L,by simp[e],fun k x hk=>?_,h4⟩
  cases k with
  | zero =>
   simp only[A4Z,Option.some.injEq] at hk
   subst hk
   exact h1
  | succ k=>exact h3 k x (by simpa using hk)
def Sees(L:List (Oper × Kind))(a0:Act)(lst:Nat->Bool)(b:Nat->Nat)(a:Act):Prop :=
 a.defers=a0.defers/\a.tmps.size=a0.tmps.size /\
 (∀j x t,L[j]?=some x->x.1.dst=some t->lst j=true->t<a0.tmps.size->a.tmps[t]?=some (x.2.val (b j))) /\
 (∀t,(∀j x,L[j]?=some x->x.1.dst=some t->lst j=false)->a.tmps[t]?=a0.tmps[t]?)
def Apart(L:List (Oper × Kind)):Prop:=∀(j k:Nat)(x y:Oper × Kind)(t:Tmp),L[j]?=some x->L[k]?=some y->x.1.dst=some t->y.1.dst=some t->j=k
theorem Sees.start(L:List (Oper × Kind))(a0:Act)(b:Nat->Nat):Sees L a0 (fun _=>false) b a0:=⟨rfl,rfl,fun _ _ _ _ _ (h:false=true)=>(by cases h),fun _ _=>rfl⟩
theorem Sees.congr{L:List (Oper × Kind)}{a0 a:Act}{l1 l2:Nat->Bool}{b1 b2:Nat->Nat}(h:Sees L a0 l1 b1 a)(hl:∀j,j<L.length->l1 j=l2 j)(hb:∀j,j<L.length->l1 j=true->b1 j=b2 j):Sees L a0 l2 b2 a:=by
 have lt:∀{j x},L[j]?=some x->j<L.length:=fun h=>(A3n.1 h).1
 refine⟨h.1,h.2.1,fun j x t hj hd hlj ht=>?_,fun t ht=>h.2.2.2 t fun j x hj hd=>(hl j (lt hj)).trans (ht j x hj hd)⟩
 have h1:l1 j=true:=(hl j (lt hj)).trans hlj
 rw[h.2.2.1 j x t hj hd h1 ht,hb j (lt hj) h1]
theorem Sees.put{L:List (Oper × Kind)}{a0 a:Act}{lst:Nat->Bool}{b:Nat->Nat}(hA:Apart L)(h:Sees L a0 lst b a){i:Nat}{x:Oper × Kind}(hi:L[i]?=some x) :
  Sees L a0 (fun j=>j == i || lst j) b (a.put x.1.dst (x.2.val (b i))):=by
 obtain⟨h1,h2,h3,h4⟩:=h
 cases hd:x.1.dst with
 | none =>
  refine⟨h1,h2,fun j y t hj hy hl ht=>?_,fun t ht=>h4 t fun j y hj hy=>?_⟩
  ·refine h3 j y t hj hy ?_ ht
   rcases A4S _ _ ▸ hl with h5|h5
   ·have:j=i:=by simpa using h5
    subst this
    rw[hi] at hj;cases hj;rw[hd] at hy;cases hy
   ·exact h5
  ·have:=ht j y hj hy
   simp only[Bool.or_eq_false_iff] at this
   exact this.2
 | some d =>
  refine⟨h1,by simp[Act.put,h2],fun j y t hj hy hl ht=>?_,fun t ht=>?_⟩
  ·simp only[Act.put]
   by_cases hji:j=i
   ·subst hji
    rw[hi] at hj;cases hj;rw[hd] at hy;cases hy
    simp[h2,ht]
   ·have hne:d≠t:=fun e=>hji (hA j i y x t hj hi hy (by rw[hd,e]))
    rw[A4r hne]
    refine h3 j y t hj hy ?_ ht
    simpa[hji] using hl
  ·simp only[Act.put]
   have hne:d≠t:=fun e=>by
    have:=ht i x hi (by rw[hd,e])
    simp at this
   rw[A4r hne]
   exact h4 t fun j y hj hy=>by
    have:=ht j y hj hy
    simp only[Bool.or_eq_false_iff] at this
    exact this.2
theorem Sees.text{L:List (Oper × Kind)}(hA:Apart L)(a0:Act)(b:Nat->Nat):∀k,k<=L.length->Sees L a0 (fun j=>decide (j<k)) b (actT (L.take k) 0 a0 b)
 | 0,_=>(Sees.start L a0 b).congr (fun j _=>by simp) (fun _ _ _=>rfl)
 | k+1,hk=>by
  have hg:L[k]?=some L[k]:=A3p E9
  have h1:=(Sees.text hA a0 b k E9).put hA hg
  rw[A4u E9,actT_snoc]
  have e:0+(L.take k).length=k:=by simp;omega
  rw[e]
  exact h1.congr (fun j _=>by rw[Bool.eq_iff_iff];simp only[A4S,beq_iff_eq,decide_eq_true_eq];omega) (fun _ _ _=>rfl)
theorem Sees.same{L:List (Oper × Kind)}{a0 a1 a2:Act}{l1 l2:Nat->Bool}{b:Nat->Nat}(h1:Sees L a0 l1 b a1)(h2:Sees L a0 l2 b a2)(t:Tmp)(ht:∀j x,L[j]?=some x->x.1.dst=some t->l1 j=true/\l2 j=true) :
  a1.tmps[t]?=a2.tmps[t]?:=by
 by_cases hj:∃(j:Nat)(x:Oper × Kind),L[j]?=some x/\x.1.dst=some t
 ·obtain⟨j,x,hj,hd⟩:=hj
  rcases A5n t a0.tmps.size with h|h
  ·rw[h1.2.2.1 j x t hj hd (ht j x hj hd).1 h,h2.2.2.1 j x t hj hd (ht j x hj hd).2 h]
  ·rw[A4v (by rw[h1.2.1];exact h),A4v (by rw[h2.2.1];exact h)]
 ·have hn:∀(l:Nat->Bool) j x,L[j]?=some x->x.1.dst=some t->l j=false:=fun l j x h3 h4=>(hj ⟨j,x,h3,h4⟩).elim
  rw[h1.2.2.2 t (hn l1),h2.2.2.2 t (hn l2)]
theorem A1X{a1 a2:Act}{ops:Array Oper}{o:Oper}(hs:∀cs b,o.op≠.select cs b)(h:∀t∈o.looksAt ops,a1.tmps[t]?=a2.tmps[t]?) :
  execOp a1.eval o=execOp a2.eval o/\Region.wanted o (yielded ops a1.tmps)=Region.wanted o (yielded ops a2.tmps):=by
 constructor
 ·refine execOp_congr o hs fun x hx=>?_
  cases x with
  | tmp t =>
   have:=h t (A4B _ (List.mem_filterMap.2 ⟨.tmp t,by simpa using hx,rfl⟩))
   simp only[Act.eval,Array.getD_eq_getD_getElem?,this]
  | const v=>rfl
  | global g=>rfl
  | func f=>rfl
 ·unfold Region.wanted
  cases hg:o.guard with
  | none=>rfl
  | some gw =>
   obtain⟨g,want⟩:=gw
   have:yielded ops a1.tmps g=yielded ops a2.tmps g:=by
    unfold yielded
    cases ht:(ops[g]?).bind (·.dst) with
    | none=>rfl
    | some t =>
     have:=h t (A3L _ (by simp[hg,ht]))
     simp only[Option.bind_some,this]
   simp only[this]
theorem wp_of_at{o:Oper}{a:Act}{v:Value}{K:Act->World->Prop}{Q:Exit->Act->World->Prop}{w:World}{C:World->Prop}(hC:C w)(h:o.quietAt P a C w v)(hK:∀w',C w'->K (a.put o.dst v) w'):o.wp P a w K Q:=by
 unfold Oper.quietAt at h
 unfold Oper.wp
 generalize (execOp a.eval o).run P w=r at *
 cases r with
 | halt x w'=>exact h.elim
 | ok n w' =>
  cases n<;>simp only[Oper.quietUpon] at h<;>simp only[Oper.upon]
  case value u=>obtain⟨rfl,rfl⟩:=h;exact hK _ hC
  case skip=>obtain⟨rfl,rfl⟩:=h;exact hK _ hC
  case enter f args =>
   obtain⟨rfl,h⟩:=h
   exact h.mono fun e w'' he=>by obtain⟨rfl,hw⟩:=he;exact hK _ hw
def left(listed:Array Bool):Nat:=listed.toList.countP (!·)
theorem A0c{listed:Array Bool}{i:Nat}(h:listed.getD i true=false):left (listed.setIfInBounds i true)+1<=left listed:=by
 have hi:i<listed.size:=by
  rcases A5n i listed.size with h'|h'
  ·exact h'
  ·simp[A4v h'] at h
 have hv:listed.toList[i]'(by simpa using hi)=false:=by
  simp only[Array.getD,hi,dif_pos] at h
  simpa using h
 unfold left
 rw[Array.toList_setIfInBounds,List.countP_set (by simpa using hi)]
 have hp:0<listed.toList.countP (!·):=List.countP_pos_iff.2 ⟨listed.toList[i]'(by simpa using hi),A5u _,by simp[hv]⟩
 rw[hv]
 simp only[Bool.not_false,Bool.not_true,if_true,Bool.false_eq_true,if_false]
 omega
theorem A0f{listed:Array Bool}{i:Nat}(h:listed.getD i true=false):0<left listed:=by
 have:=A0c h;omega
def waits(md:Region.Mode)(ops:Array Oper):Nat->Oper->Nat->Bool
 | 0,o,j=>direct md o j
 | f+1,o,j=>direct md o j || o.after.any fun e=>Region.binds md e && match ops[e.on]? with|some o'=>waits md ops f o' j|none=>false
def Closed(md:Region.Mode)(ops:Array Oper)(listed:Array Bool):Prop:=∀(j:Nat)(o:Oper),ops[j]?=some o->listed.getD j false=true->∀e∈o.after,Region.binds md e=true->listed.getD e.on false=true
theorem waits_listed{ops:Array Oper}{listed:Array Bool}(hcl:Closed md ops listed):∀(f:Nat)(o:Oper)(j:Nat),(∀e∈o.after,Region.binds md e=true->listed.getD e.on false=true)->waits md ops f o j=true->listed.getD j false=true:=by
 have base:∀(o:Oper)(j:Nat),(∀e∈o.after,Region.binds md e=true->listed.getD e.on false=true)->direct md o j=true->listed.getD j false=true:=fun o j hall hd=>by
  obtain⟨e,he,hb⟩:=Array.any_eq_true'.1 hd
  simp only[A3A,beq_iff_eq] at hb
  rw[<-hb.2];exact hall e he hb.1
 intro f
 induction f with
 | zero=>exact base
 | succ f ih =>
  intro o j hall h
  simp only[waits,A4S] at h
  rcases h with h|h
  ·exact base o j hall h
  ·obtain⟨e,he,hb⟩:=Array.any_eq_true'.1 h
   simp only[A3A] at hb
   cases ho:ops[e.on]? with
   | none=>simp[ho] at hb
   | some o' =>
    have h2:=hb.2
    simp only[ho] at h2
    exact ih o' j (hcl e.on o' ho (hall e he hb.1)) h2
theorem Closed.set{ops:Array Oper}{listed:Array Bool}(hcl:Closed md ops listed){i:Nat}(hi:i∈Region.ready md ops listed):Closed md ops (listed.setIfInBounds i true):=fun j o ho hl e he hb=>by
 refine getD_set_true ?_
 by_cases hij:i=j
 ·subst hij
  obtain⟨_,o',ho',hall⟩:=mem_ready.1 hi
  rw[ho] at ho';cases ho'
  exact hall e he hb
 ·rw[getD_set_ne false hij] at hl
  exact hcl j o ho hl e he hb
theorem P1{ops:Array Oper}{listed:Array Bool}(hcl:Closed md ops listed){i j:Nat}{o:Oper}(hr:i∈Region.ready md ops listed)(ho:ops[i]?=some o){f:Nat}(hd:waits md ops f o j=true):listed.getD j false=true:=by
 obtain⟨_,o',ho',hall⟩:=mem_ready.1 hr
 rw[ho] at ho'
 cases ho'
 exact waits_listed hcl f o j hall hd
def tailOK(md:Region.Mode)(ops:Array Oper)(n:Nat)(T:List Oper):Bool:=(List.range T.length).all fun k=>match T[k]? with|some t=>(List.range (n+k)).all fun i=>waits md ops 6 t i|none=>true
theorem T9{ops:Array Oper}{n k:Nat}{T:List Oper}(h:tailOK md ops n T=true){t:Oper}(hk:T[k]?=some t){i:Nat}(hi:i<n+k):waits md ops 6 t i=true:=by
 have hlt:k<T.length:=(A3n.1 hk).1
 have h1:=A3V.1 h k (A4m.2 hlt)
 simp only[hk] at h1
 exact A3V.1 h1 i (A4m.2 hi)
theorem O3{ops:Array Oper}{listed:Array Bool}{i j:Nat}{o:Oper}(hr:i∈Region.ready md ops listed)(ho:ops[i]?=some o)(hd:direct md o j=true):listed.getD j false=true:=by
 obtain⟨_,o',ho',hall⟩:=mem_ready.1 hr
 rw[ho] at ho'
 cases ho'
 obtain⟨e,he,hb⟩:=Array.any_eq_true'.1 hd
 simp only[A3A,beq_iff_eq] at hb
 rw[<-hb.2]
 exact hall e he hb.1
theorem H8{listed:Array Bool}{j:Nat}(hj:j<listed.size)(d e:Bool):listed.getD j d=listed.getD j e:=by simp[Array.getD,hj]
theorem any_tail{Q:Exit->Act->World->Prop}{l T:List Oper}(hdn:downB md (l++T)=true)(hT:tailOK md (l++T).toArray l.length T=true):∀(r:List Oper)(k fuel:Nat)(listed:Array Bool)(a:Act)(w:World),T.drop k=r->listed.size=(l++T).length->Closed md (l++T).toArray listed ->
  (∀j,j<l.length+k->listed.getD j false=true)->(∀j,l.length+k<=j->j<(l++T).length->listed.getD j true=false)->left listed<=fuel->wpList P (l++T).toArray Q r a w->wpAny P md (l++T).toArray Q fuel listed a w
 | [],k,fuel,listed,a,w,hr,hsz,hcl,hl,_,_,h=>by
  have hk:T.length<=k:=List.drop_eq_nil_iff.1 hr
  refine ready_none ?_ h fuel
  rw[A4s]
  intro i hi
  obtain⟨h0,o,ho,_⟩:=mem_ready.1 hi
  have hi':i<(l++T).length:=by simpa using (A3y.1 ho).1
  have h1:=hl i (by simp only[A3k] at hi';omega)
  rw[H8 E9 true false,h1] at h0
  cases h0
 | o::r,k,fuel,listed,a,w,hr,hsz,hcl,hl,hu,hf,h=>by
  have hk:k<T.length:=by
   rcases A5n k T.length with h'|h'
   ·exact h'
   ·rw[A3M h'] at hr;cases hr
  have ho:T[k]?=some o:=by
   have:=congrArg (fun l=>l[0]?) hr
   simpa using this
  have hgo:(l++T).toArray[l.length+k]?=some o:=by
   simp only[A3o]
   rw[A3P E9,A4e,ho]
  have hun:listed.getD (l.length+k) true=false:=hu _ (A3t _) E6
  cases fuel with
  | zero=>have:=A0f hun;omega
  | succ fuel =>
   refine⟨fun h0=>absurd h0 (Q1 hdn hsz (l.length+k) E6 hun),fun i hi=>?_⟩
   have hik:i=l.length+k:=by
    obtain⟨h0,oi,hoi,_⟩:=mem_ready.1 hi
    have hi':i<(l++T).length:=by simpa using (A3y.1 hoi).1
    rcases Nat.lt_trichotomy i (l.length+k) with h'|h'|h'
    ·rw[H8 E9 true false,hl i h'] at h0;cases h0
    ·exact h'
    ·have hoT:T[i - l.length]?=some oi:=by
      simp only[A3o] at hoi
      rwa [A3P E9] at hoi
     have:=P1 hcl hi hoi (T9 hT hoT (i:=l.length+k) E9)
     rw[H8 C7 false true,hun] at this
     cases this
   subst hik
   have hw:wpOp P (l++T).toArray Q (l.length+k) (wpList P (l++T).toArray Q r) a w:=by
    unfold wpOp
    rw[hgo]
    exact h
   have hd:T.drop (k+1)=r:=by
    have:=congrArg List.tail hr
    simpa using this
   refine wpOp_mono (fun a' w' h'=>any_tail hdn hT r (k+1) fuel _ a' w' hd E2 (hcl.set hi) (fun j hj=>?_) (fun j hj hj2=>?_) (by have:=A0c hun;omega) h') hw
   ·by_cases hjk:l.length+k=j
    ·subst hjk
     have:l.length+k<listed.size:=by simp only[A3k] at hsz;omega
     simp[Array.getD,this]
    ·rw[getD_set_ne false hjk];exact hl j E9
   ·rw[getD_set_ne true E9];exact hu j E9 hj2
def frontOK(md:Region.Mode)(l T:List Oper):Bool :=
 Region.noSelect l.toArray && downB md (l++T) && tailOK md (l++T).toArray l.length T &&
 (List.range l.length).all fun i=>match l[i]? with
  | some o=>(List.range l.length).all fun j=>match l[j]? with
   | some y=>match y.dst with
    | some t=>(i == j || o.dst != some t) && (!(o.looksAt (l++T).toArray).contains t || (decide (j<i) && direct md o j))
    | none=>true
   | none=>true
  | none=>true
def New(W:World)(L:List (Oper × Kind))(lst:Nat->Bool)(b:Nat->Nat)(w:World):Prop :=
 Cls W w/\(∀j o mk cs t,L[j]?=some (o,.fresh mk cs t)->lst j=true->W.heap.size<=b j/\blk w (b j)=some (.cells cs t (0,0))) /\
 (∀i j x y mx cx tx my cy ty,L[i]?=some (x,.fresh mx cx tx)->L[j]?=some (y,.fresh my cy ty)->lst i=true->lst j=true->i≠j->b i≠b j)
theorem New.step{W w w':World}{L:List (Oper × Kind)}{l1 l2:Nat->Bool}{b:Nat->Nat}(h:New W L l1 b w)(hb:Below w.heap.size w w')(hl:∀j o mk cs t,L[j]?=some (o,.fresh mk cs t)->l2 j=true->l1 j=true):New W L l2 b w' :=
 ⟨h.1.step hb,fun j o mk cs t hj hl2=>by
  have h1:=h.2.1 j o mk cs t hj (hl j o mk cs t hj hl2)
  exact⟨h1.1,(hb.block _ (G1 h1.2)).trans h1.2⟩,
  fun i j x y mx cx tx my cy ty hi hj h1 h2=>h.2.2 i j x y mx cx tx my cy ty hi hj (hl i _ _ _ _ hi h1) (hl j _ _ _ _ hj h2)⟩
theorem New.lay{W w:World}{L:List (Oper × Kind)}{lst:Nat->Bool}{b:Nat->Nat}(h:New W L lst b w){i:Nat}{o:Oper}{mk:Nat->Value}{cs:Array Value}{t:TypeId}(hi:L[i]?=some (o,.fresh mk cs t))(hun:lst i=false) :
  New W L (fun j=>j == i || lst j) (fun j=>if j=i then w.heap.size else b j) (w.alloc (.cells cs t)):=by
 have hb:Below w.heap.size w (w.alloc (.cells cs t)):=(Below.refl _ _).alloc (A3t _) _
 refine⟨h.1.step hb,fun j o' mk' cs' t' hj hl=>?_,fun p q x y mx cx tx my cy ty hp hq h1 h2 hne=>?_⟩<;>dsimp only
 ·by_cases hji:j=i
  ·subst hji
   rw[hi] at hj;cases hj
   rw[if_pos rfl]
   exact⟨h.1.size,by rw[P5,if_pos rfl]⟩
  ·rw[if_neg hji]
   have h1:=h.2.1 j o' mk' cs' t' hj (by simpa[hji] using hl)
   exact⟨h1.1,(hb.block _ (G1 h1.2)).trans h1.2⟩
 ·have old:∀j x mx cx tx,L[j]?=some (x,.fresh mx cx tx)->(j == i || lst j)=true->j≠i->b j<w.heap.size:=fun j x mx cx tx hj hl hne =>
   G1 (h.2.1 j x mx cx tx hj (by simpa[hne] using hl)).2
  by_cases hpi:p=i
  ·subst hpi
   rw[if_pos rfl,if_neg (Ne.symm hne)]
   have:=old q y my cy ty hq h2 (Ne.symm hne)
   omega
  ·rw[if_neg hpi]
   by_cases hqi:q=i
   ·subst hqi
    rw[if_pos rfl]
    have:=old p x mx cx tx hp h1 hpi
    omega
   ·rw[if_neg hqi]
    exact h.2.2 p q x y mx cx tx my cy ty hp hq (by simpa[hpi] using h1) (by simpa[hqi] using h2) hne
theorem any_front{Q:Exit->Act->World->Prop}{l T:List Oper}{W:World}{a0:Act}{L:List (Oper × Kind)}(hB:frontOK md l T=true)(hL:L.map (·.1)=l)
  (hstep:∀k x,L[k]?=some x->stepOK P md (l++T).toArray W x.1 (fun b=>actT (L.take k) 0 a0 b) (factsT (L.take k) 0 []) x.2)
  (hQ:∀b w',New W L (fun _=>true) b w'->wpList P (l++T).toArray Q T (actT L 0 a0 b) w') :
  ∀(fuel:Nat)(listed:Array Bool)(b:Nat->Nat)(a:Act)(w:World),listed.size=(l++T).length->Closed md (l++T).toArray listed->(∀j,l.length<=j->j<(l++T).length->listed.getD j true=false)->left listed<=fuel ->
   Sees L a0 (fun j=>listed.getD j false) b a->New W L (fun j=>listed.getD j false) b w->wpAny P md (l++T).toArray Q fuel listed a w:=by
 simp only[frontOK,A3A] at hB
 obtain⟨⟨⟨hsel,hdn⟩,hT⟩,hall⟩:=hB
 have hLl:L.length=l.length:=by rw[<-hL];simp
 have hlo:∀{i:Nat}{x:Oper × Kind},L[i]?=some x->l[i]?=some x.1:=fun {i x} h=>by rw[<-hL];simp[h]
 have hpair:∀{i j:Nat}{x y:Oper × Kind}{t:Tmp},L[i]?=some x->L[j]?=some y->y.1.dst=some t ->
   ((i=j\/x.1.dst≠some t)/\(t∈x.1.looksAt (l++T).toArray->j<i/\direct md x.1 j=true)):=fun {i j x y t} hi hj hd=>by
  have hil:i<l.length:=by rw[<-hLl];exact(A3n.1 hi).1
  have hjl:j<l.length:=by rw[<-hLl];exact(A3n.1 hj).1
  have h1:=A3V.1 hall i (A4m.2 hil)
  simp only[hlo hi] at h1
  have h2:=A3V.1 h1 j (A4m.2 hjl)
  simp only[hlo hj,hd,A3A,A4S,beq_iff_eq,bne_iff_ne,A4F,decide_eq_true_eq] at h2
  refine⟨h2.1,fun ht=>h2.2.resolve_left ?_⟩
  simp[ht]
 have hA:Apart L:=fun j k x y t hj hk hx hy=>((hpair hj hk hy).1).resolve_right fun h=>h hx
 have hfin:∀(fuel:Nat)(listed:Array Bool)(b:Nat->Nat)(a:Act)(w:World),listed.size=(l++T).length->Closed md (l++T).toArray listed->(∀j,l.length<=j->j<(l++T).length->listed.getD j true=false)->left listed<=fuel ->
   Sees L a0 (fun j=>listed.getD j false) b a->New W L (fun j=>listed.getD j false) b w->(∀j,j<l.length->listed.getD j false=true)->wpAny P md (l++T).toArray Q fuel listed a w:=by
  intro fuel listed b a w hsz hcl hu hf hS hN hdone
  have ha:a=actT L 0 a0 b:=by
   have h2:=Sees.text hA a0 b L.length (A3t _)
   rw[A5P] at h2
   have ht:a.tmps=(actT L 0 a0 b).tmps:=A4N fun t=>hS.same h2 t fun j x hj _=>by
    have hjl:j<L.length:=(A3n.1 hj).1
    exact⟨hdone j E9,by simpa using hjl⟩
   have hd:a.defers=(actT L 0 a0 b).defers:=hS.1.trans h2.1.symm
   cases a
   cases h:actT L 0 a0 b
   rw[h] at ht hd
   simp only at ht hd
   rw[ht,hd]
  subst ha
  have hN':New W L (fun _=>true) b w:=hN.step (Below.refl _ _) fun j o mk cs t hj _=>hdone j C6
  exact any_tail hdn hT T 0 fuel listed _ w rfl hsz hcl (fun j hj=>hdone j E4) (fun j hj hj2=>hu j E4 hj2) hf (hQ b w hN')
 intro fuel
 induction fuel with
 | zero =>
  intro listed b a w hsz hcl hu hf hS hN
  refine hfin 0 listed b a w hsz hcl hu hf hS hN fun j hj=>?_
  cases hv:listed.getD j false with
  | true=>rfl
  | false =>
   rw[H8 C7 false true] at hv
   have:=A0f hv;omega
 | succ fuel ih =>
  intro listed b a w hsz hcl hu hf hS hN
  by_cases hdone:∀j,j<l.length->listed.getD j false=true
  ·exact hfin (fuel+1) listed b a w hsz hcl hu hf hS hN hdone
  ·simp only[Classical.not_forall] at hdone
   obtain⟨m,hm,hmu⟩:=hdone
   have hmu':listed.getD m false=false:=by simpa using hmu
   have hmt:listed.getD m true=false:=by rw[H8 C7 true false];exact hmu'
   refine⟨fun h0=>absurd h0 (Q1 hdn hsz m C8 hmt),fun i hi=>?_⟩
   obtain⟨hiu,oi,hoi,_⟩:=mem_ready.1 hi
   have hi':i<(l++T).length:=by simpa using (A3y.1 hoi).1
   have hil:i<l.length:=by
    rcases A5n i l.length with h'|h'
    ·exact h'
    ·have hoT:T[i - l.length]?=some oi:=by
      simp only[A3o] at hoi
      rwa [A3P h'] at hoi
     have:=P1 hcl hi hoi (T9 hT hoT (i:=m) E9)
     rw[hmu'] at this;cases this
   have hgx:L[i]?=some (L[i]'E9):=A3p E9
   generalize L[i]'E9=x at hgx
   have hox:oi=x.1:=by
    simp only[A3o] at hoi
    rw[A3E hil,hlo hgx] at hoi
    exact(Option.some.inj hoi).symm
   subst hox
   have hsel':∀cs b,x.1.op≠.select cs b:=fun cs b=>Region.noSelect_spec hsel i x.1 cs b (by simpa using hlo hgx)
   have htext:=Sees.text hA a0 b i E9
   have hiu':listed.getD i false=false:=by rw[H8 E9 false true];exact hiu
   -- the frame in the text's order looks the same to this operation
   have hsame:=A1X (ops:=(l++T).toArray) hsel' (a1:=a) (a2:=actT (L.take i) 0 a0 b) fun t ht=>hS.same htext t fun j y hj hd=>by
    have h1:=(hpair hgx hj hd).2 ht
    exact⟨O3 hi hoi h1.2,by simpa using h1.1⟩
   have hF:FactsAt md x.1 (factsT (L.take i) 0 []) b w:=fun f hf hd=>by
    rcases mem_factsT _ _ _ hf with h1|⟨k,o,mk,hk,he⟩
    ·cases h1
    ·have hk':L[k]?=some (o,.fresh mk f.2.1 f.2.2):=by
      rw[A4f] at hk
      split at hk
      ·exact hk
      ·cases hk
     have:f.1=k:=by omega
     rw[this] at hd |-
     exact(hN.2.1 k o mk _ _ hk' (O3 hi hoi hd)).2
   have hst:=hstep i x hgx
   have hset:∀j,j<L.length->(j == i || listed.getD j false)=(listed.setIfInBounds i true).getD j false:=fun j hj=>by
    by_cases hji:i=j
    ·subst hji
     simp[Array.getD,show i<listed.size by omega]
    ·rw[getD_set_ne false hji];simp[Ne.symm hji]
   have hu':∀j,l.length<=j->j<(l++T).length->(listed.setIfInBounds i true).getD j true=false:=fun j hj hj2=>by
    rw[getD_set_ne true E9];exact hu j hj hj2
   have hf':left (listed.setIfInBounds i true)<=fuel:=by have:=A0c hiu;omega
   have hgo:∀(b':Nat->Nat)(w':World),Sees L a0 (fun j=>j == i || listed.getD j false) b' (a.put x.1.dst (x.2.val (b' i)))->New W L (fun j=>j == i || listed.getD j false) b' w' ->
     wpAny P md (l++T).toArray Q fuel (listed.setIfInBounds i true) (a.put x.1.dst (x.2.val (b' i))) w':=fun b' w' hS' hN' =>
    ih _ b' _ w' E2 (hcl.set hi) hu' hf' (hS'.congr hset (fun _ _ _=>rfl)) (hN'.step (Below.refl _ _) fun j o mk cs t hj hl=>by
     rw[hset j (A3n.1 hj).1];exact hl)
   obtain⟨o,κ⟩:=x
   unfold wpOp
   rw[hoi]
   simp only
   cases κ with
   | fix v =>
    have hkeep:∀w',Below w.heap.size w w'->New W L (fun j=>j == i || listed.getD j false) b w':=fun w' hb=>hN.step hb fun j o' mk cs t hj hl=>by
     by_cases hji:j=i
     ·subst hji;rw[hgx] at hj;cases hj
     ·simpa[hji] using hl
    have hS':=hS.put hA hgx
    rcases hst b w hN.1 hF with⟨hw,hq⟩|⟨hw,hv⟩
    ·rw[<-hsame.2] at hw
     rw[if_pos hw]
     refine .inl (wp_of_at (C:=Below w.heap.size w) (Below.refl _ _) (v:=v) ?_ fun w' hb=>hgo b w' hS' (hkeep w' hb))
     unfold Oper.quietAt at hq |-
     rw[hsame.1]
     exact hq
    ·rw[<-hsame.2] at hw
     rw[if_neg (by rw[hw];decide)]
     have h1:=hgo b w hS' (hkeep w (Below.refl _ _))
     simp only[Kind.val,hv] at h1
     exact h1
   | fresh mk cs t =>
    have hN':=hN.lay hgx hiu'
    have hS1:Sees L a0 (fun j=>listed.getD j false) (fun j=>if j=i then w.heap.size else b j) a:=hS.congr (fun _ _=>rfl) fun j _ hl=>by
     rw[if_neg]
     intro e
     subst e
     rw[hiu'] at hl;cases hl
    have hS':=hS1.put hA hgx
    obtain⟨hw,hr⟩:=hst b w hN.1 hF
    rw[<-hsame.2] at hw
    rw[if_pos hw]
    refine .inl ?_
    have h1:=hgo _ _ hS' hN'
    unfold Oper.wp
    rw[hsame.1,hr,Oper.upon_value]
    simpa[Kind.val] using h1
theorem region_mono{id:Nat}{Q:Exit->Act->World->Prop}{a:Act}{w:World}(l T:List Oper)(hm:P.follows .mixedOrders=true)(hB:frontOK .any l T=true)
  (h:wpM P .any (l++T).toArray w (fun a' F=>∀b w',Cls w w'->(∀x∈F,w.heap.size<=b x.1/\blk w' (b x.1)=some (.cells x.2.1 x.2.2 (0,0)))->(∀x∈F,∀y∈F,x.1≠y.1->b x.1≠b y.1)->wpList P (l++T).toArray Q T (a' b) w') l 0 (fun _=>a) []) :
  (Code.region id (l++T).toArray true).wp P Q a w:=by
 obtain⟨L,hL,hstep,hQ⟩:=wpM_out l 0 _ [] h
 refine wp_region_any hm (any_front hB hL hstep (fun b w' hN=>hQ b w' hN.1 (fun x hx=>?_) (fun x hx y hy hne=>?_)) _ _ (fun _=>0) a _ F0 (fun j o _ hl=>by simp only[Array.getD] at hl;split at hl<;>simp at hl) (fun j _ hj=>by simp only[A3k] at hj;simp[Array.getD];omega) ?_ ?_ ?_)
 ·rcases mem_factsT _ _ _ hx with h1|⟨k,o,mk,hk,he⟩
  ·cases h1
  ·have:x.1=k:=by omega
   rw[this]
   exact hN.2.1 k o mk _ _ hk rfl
 ·rcases mem_factsT _ _ _ hx with h1|⟨k,o,mk,hk,he⟩
  ·cases h1
  rcases mem_factsT _ _ _ hy with h1|⟨k',o',mk',hk',he'⟩
  ·cases h1
  have e1:x.1=k:=by omega
  have e2:y.1=k':=by omega
  rw[e1,e2] at hne |-
  exact hN.2.2 k k' _ _ _ _ _ _ _ _ hk hk' rfl rfl hne
 ·unfold left
  exact A3T List.countP_le_length F0
 ·refine(Sees.start L a (fun _=>0)).congr (fun j _=>?_) (fun _ _ _=>rfl)
  simp only[Array.getD]
  split<;>simp
 ·refine⟨⟨rfl,rfl,rfl,A3t _,fun _ _=>rfl⟩,fun j o mk cs t hj hl=>?_,fun i j x y mx cx tx my cy ty hi hj h1 _=>?_⟩
  ·simp only[Array.getD] at hl
   split at hl<;>simp at hl
  ·simp only[Array.getD] at h1
   split at h1<;>simp at h1
theorem F6{id:Nat}{Q:Exit->Act->World->Prop}{a:Act}{w:World}{l:List Oper}(n:Nat)(hm:P.follows .mixedOrders=true)(hB:frontOK .any (l.take n) (l.drop n)=true)
  (h:wpM P .any l.toArray w (fun a' F=>∀b w',Cls w w'->(∀x∈F,w.heap.size<=b x.1/\blk w' (b x.1)=some (.cells x.2.1 x.2.2 (0,0)))->(∀x∈F,∀y∈F,x.1≠y.1->b x.1≠b y.1)->wpList P l.toArray Q (l.drop n) (a' b) w') (l.take n) 0 (fun _=>a) []) :
  (Code.region id l.toArray true).wp P Q a w:=by
 have:=region_mono (P:=P) (id:=id) (Q:=Q) (a:=a) (w:=w) (l.take n) (l.drop n) hm hB (by rwa [A3O])
 rwa [A3O] at this
variable{ops:Array Oper}{W:World}{Q:((Nat->Nat)->Act)->List Fact->Prop}{o:Oper}{rest:List Oper}{i:Nat}{a:(Nat->Nat)->Act}{F:List Fact}
theorem wpM_nil(h:Q a F):wpM P md ops W Q [] i a F:=h
theorem wpM_skip(hw:∀b,Region.wanted o (yielded ops (a b).tmps)=false)(h:wpM P md ops W Q rest (i+1) (fun b=>(a b).put o.dst undef) F):wpM P md ops W Q (o::rest) i a F :=
 ⟨.fix undef,fun b _ _ _=>.inr ⟨hw b,rfl⟩,h⟩
theorem M4(hw:∀b,Region.wanted o (yielded ops (a b).tmps)=true)
  (h:∀K:((Nat->Nat)->Act)->List Fact->Prop,(∀a F,wpM P md ops W Q rest (i+1) a F->K a F)->∃v,(∀b w',Cls W w'->FactsAt md o F b w'->o.quietAt P (a b) (Below w'.heap.size w') w' v)/\K (fun b=>(a b).put o.dst v) F):wpM P md ops W Q (o::rest) i a F:=by
 obtain⟨v,h1,h2⟩:=h (fun a F=>wpM P md ops W Q rest (i+1) a F) (fun _ _ h=>h)
 exact⟨.fix v,fun b w' hw' hF=>.inl ⟨hw b,h1 b w' hw' hF⟩,h2⟩
theorem Zw(h:∃v,(∀b w',Cls W w'->FactsAt md o F b w'->o.quietAt P (a b) (Below w'.heap.size w') w' v)/\wpM P md ops W Q rest (i+1) (fun b=>(a b).put o.dst v) F)(hw:∀b,Region.wanted o (yielded ops (a b).tmps)=true:=by exact fun _=>rfl):wpM P md ops W Q (o::rest) i a F:=by
 obtain⟨v,h1,h2⟩:=h
 exact⟨.fix v,fun b w' hw' hF=>.inl ⟨hw b,h1 b w' hw' hF⟩,h2⟩
theorem wpM_alloc{t:TypeId}(ho:o.op=.alloc t)(hw:∀b,Region.wanted o (yielded ops (a b).tmps)=true)(cs:Array Value)(hz:∀w,(execOp (fun _=>undef) { o with op:=.alloc t }).run P w=.ok (.value (.pointer (some ⟨w.heap.size,0,none⟩))) (w.alloc (.cells cs t)))
  (h:wpM P md ops W Q rest (i+1) (fun b=>(a b).put o.dst (.pointer (some ⟨b i,0,none⟩))) ((i,cs,t)::F)):wpM P md ops W Q (o::rest) i a F :=
 ⟨.fresh (fun n=>.pointer (some ⟨n,0,none⟩)) cs t,fun b w' _ _=>⟨hw b,by
  have:execOp (a b).eval o=execOp (fun _=>undef) { o with op:=.alloc t }:=by
   obtain⟨dst,op,type,pos,after,guard⟩:=o
   simp only at ho
   subst ho
   rfl
  rw[this];exact hz w'⟩,h⟩
theorem wpM_slice(n c:Nat)(t:TypeId)(hw:∀b,Region.wanted o (yielded ops (a b).tmps)=true)(cs:Array Value)
  (hz:∀b w',Cls W w'->FactsAt md o F b w'->(execOp (a b).eval o).run P w'=.ok (.value (.slice (some ⟨w'.heap.size,0,none⟩) n c)) (w'.alloc (.cells cs t)))
  (h:wpM P md ops W Q rest (i+1) (fun b=>(a b).put o.dst (.slice (some ⟨b i,0,none⟩) n c)) ((i,cs,t)::F)):wpM P md ops W Q (o::rest) i a F :=
 ⟨.fresh (fun m=>.slice (some ⟨m,0,none⟩) n c) cs t,fun b w' hw' hF=>⟨hw b,hz b w' hw' hF⟩,h⟩
def isSlice(o:Oper):Bool:=match o.op with|.buildSlice .. => true|.makeSlice .. => true|_=>false
theorem wpM_slice'(_:isSlice o=true)(hw:∀b,Region.wanted o (yielded ops (a b).tmps)=true)
  (h:∀K:((Nat->Nat)->Act)->List Fact->Prop,(∀a F,wpM P md ops W Q rest (i+1) a F->K a F)->∃n c t cs,(∀b w',Cls W w'->FactsAt md o F b w'->(execOp (a b).eval o).run P w'=.ok (.value (.slice (some ⟨w'.heap.size,0,none⟩) n c)) (w'.alloc (.cells cs t)))/\K (fun b=>(a b).put o.dst (.slice (some ⟨b i,0,none⟩) n c)) ((i,cs,t)::F)) :
  wpM P md ops W Q (o::rest) i a F:=by
 obtain⟨n,c,t,cs,h1,h2⟩:=h (fun a F=>wpM P md ops W Q rest (i+1) a F) (fun _ _ h=>h)
 exact wpM_slice n c t hw cs h1 h2
end
theorem FactsAt.at{md:Region.Mode}{o:Oper}{F:List Fact}{b:Nat->Nat}{w:World}{i:Nat}{cs:Array Value}{t:TypeId}(h:FactsAt md o F b w)(hm:(i,cs,t)∈F)(hd:direct md o i=true):blk w (b i)=some (.cells cs t (0,0)):=h _ hm hd
end
end Go.Proofs.YtlfbfbbdpcihfaaGreat
