/-
  Laws that the claims of this seat use, of several texts in one. No condition of their own.
-/
import Derived.Test.YtggbbafanhceaaaGreatRRL34
set_option maxRecDepth 100000
set_option maxHeartbeats 8000000
set_option linter.all false
namespace Go.Proofs.YtggbbafanhceaaaGreatRR
section
open Go.RowKit
def lateOKw(i s:Nat)(l:List Oper):Bool :=
 match l[i]?,l[s]? with
 | some oi,some os=>i != s && isExtract oi && isStore os && oi.guard.isNone && os.guard.isNone && os.dst.isNone && oi.apart l.toArray os && oi.after.toList.all (fun e => !Region.binds .any e || (os.after.toList.any fun e2=>Region.binds .any e2 && e2.on == e.on)) &&
   (List.range l.length).all (fun j=>j == i || j == s || waits .any l.toArray 6 os j || (match l[j]? with|some o=>o.after.toList.any (fun e=>Region.binds .any e && e.on == i)|none=>true))
 | _,_=>false
section
variable{P:Program}{Q:Exit→Act→World→Prop}{i s:Nat}{l:List Oper}
theorem late_opN{j:Nat}{K:Act→World→Prop}{a:Act}{w:World}(h:wpOp P (lateL i s l).toArray Q j K a w):wpOp P l.toArray Q j K a w:=by
 unfold wpOp at h ⊢
 rw[A4w,A2t] at h
 rw[A4w]
 cases hl:l[j]? with
 | none=>rw[hl] at h;exact h
 | some o =>
  rw[hl] at h
  simp only[A5J] at h ⊢
  by_cases hjs:j=s
  ·rw[if_pos hjs] at h
   have e:Region.wanted (lateO i o) (yielded (lateL i s l).toArray a.tmps)=Region.wanted o (yielded l.toArray a.tmps):=(late_wanted (lateO i o) a.tmps).trans rfl
   rw[e] at h
   exact h
  ·rw[if_neg hjs,late_wanted] at h
   exact h
theorem extract_quiet{o:Oper}(h:isExtract o=true)(ρ:Operand→Value)(w:World):((execOp ρ o).runT P w #[]).2=#[]:=by
 obtain⟨x,n,e⟩:=extract_is h
 unfold execOp
 rw[e]
 simp only[Instr.extract]
 split
 ·next vs _ =>
  cases vs[n]? with
  | some u=>rfl
  | none=>rfl
 ·rfl
theorem any_lateN(hok:lateOKw i s l=true)(hQ:∀(d:Option Tmp) v c a w,Q (.panic c) (a.put d v) w→Q (.panic c) a w):∀(fuel:Nat)(x:Array Bool)(a:Act)(w:World),x.size=l.length→Closed .any l.toArray x →
  wpAny P .any (lateL i s l).toArray Q fuel x a w→wpAny P .any l.toArray Q fuel x a w:=by
 unfold lateOKw at hok
 split at hok
 rotate_left
 ·cases hok
 next oi os hi hs =>
 simp only[A4P,bne_iff_ne,ne_eq,Option.isNone_iff_eq_none] at hok
 obtain⟨⟨⟨⟨⟨⟨⟨⟨hne,hex⟩,hst⟩,hgi⟩,hgs⟩,hds⟩,hap⟩,hdeps⟩,hcov⟩:=hok
 obtain⟨h1,h2,h3⟩:=Oper.apart_spec hap
 have hil:=(A4v.1 hi).1
 have hsl:=(A4v.1 hs).1
 have bindS:∀(x:Array Bool),s∈Region.ready .any l.toArray x→∀e∈os.after,Region.binds .any e=true→x.getD e.on false=true:=by
  intro x hx e he hb
  obtain⟨_,o,ho,hall⟩:=mem_ready.1 hx
  rw[A4w,hs] at ho
  obtain rfl:=Option.some.inj ho
  exact hall e he hb
 have readyI:∀(x:Array Bool),x.getD i true=false→s∈Region.ready .any l.toArray x→i∈Region.ready .any l.toArray x:=by
  intro x hx hs2
  rw[mem_ready]
  refine⟨hx,oi,by rw[A4w];exact hi,fun e he hb=>?_⟩
  have:=A5p.1 hdeps e (by simpa using he)
  rw[hb] at this
  simp only[Bool.not_true,Bool.false_or,List.any_eq_true,A4P,beq_iff_eq] at this
  obtain⟨e2,he2,hb2,hon⟩:=this
  rw[←hon]
  exact bindS x hs2 e2 (by simpa using he2) hb2
 have hwi:∀(ops:Array Oper) tmps,Region.wanted oi (yielded ops tmps)=true:=fun ops tmps=>by unfold Region.wanted;rw[hgi]
 have hws:∀(ops:Array Oper) tmps,Region.wanted os (yielded ops tmps)=true:=fun ops tmps=>by unfold Region.wanted;rw[hgs]
 obtain⟨st,sx,sy,hsop⟩:=store_is hst
 obtain⟨ex,en,heop⟩:=extract_is hex
 intro fuel
 induction fuel using Nat.strongRecOn with
 | ind fuel ih =>
 intro x a w hx hcl hA
 cases fuel with
 | zero =>
  refine⟨A5B.2 fun j hj=>?_,hA.2⟩
  have hn:=hA.1
  by_cases hji:j≠s∨x.getD i false=true
  ·have:=A0M (i:=i) (s:=s) hj hji
   rw[hn] at this;cases this
  ·have hjs:j=s:=Decidable.byContradiction fun hh=>hji (.inl hh)
   have hxi:x.getD i true=false:=by
    rw[K8 H6 true false]
    cases hb:x.getD i false with
    | true=>exact absurd (.inr hb) hji
    | false=>rfl
   have:=A0M (i:=i) (s:=s) (readyI x hxi (hjs ▸ hj)) (.inl hne)
   rw[hn] at this;cases this
 | succ f =>
  refine⟨fun h0=>hA.1 (A5B.2 fun j hj=>by have:=late_ready' hj;rw[h0] at this;cases this),fun j hj=>?_⟩
  by_cases hji:j≠s∨x.getD i false=true
  ·exact wpOp_mono (fun a' w' hh=>ih f (Nat.lt_succ_self f) _ a' w' (by simpa using hx) (hcl.set hj) hh) (late_opN (hA.2 j (A0M hj hji)))
  ·have hjs:j=s:=Decidable.byContradiction fun hh=>hji (.inl hh)
   subst hjs
   have hxi:x.getD i true=false:=by
    rw[K8 H6 true false]
    cases hb:x.getD i false with
    | true=>exact absurd (.inr hb) hji
    | false=>rfl
   have hri:=readyI x hxi hj
   have H1:=hA.2 i (A0M hri (.inl hne))
   have H1:=late_opN H1
   unfold wpOp at H1
   rw[A4w,hi] at H1
   simp only[hwi,if_true] at H1
   replace H1:=H1.resolve_right (fun hh=>by
    have h7:=hh.1.1
    rw[extract_quiet hex] at h7
    simp at h7)
   unfold Oper.wp at H1
   rcases extract_run (P:=P) hex a.eval with⟨u,hu⟩|hbad
   rotate_left
   ·obtain⟨hx1,w1,hrun,hnp⟩:=hbad w
    rw[hrun] at H1
    cases hx1<;>first|exact H1.elim|exact absurd rfl (hnp _)
   rw[hu w] at H1
   simp only[Oper.upon] at H1
   have hsz:(x.setIfInBounds i true).size=l.length:=by simpa using hx
   have hs':j∈Region.ready .any (lateL i j l).toArray (x.setIfInBounds i true):=by
    refine A0M (ready_mono hj (Ne.symm hne)) (.inr ?_)
    simp[Array.getD,hx,hil]
   cases f with
   | zero=>have:=H1.1;rw[this] at hs';cases hs'
   | succ f =>
    have H2:=late_opN (H1.2 j hs')
    unfold wpOp at H2 ⊢
    rw[A4w,hs] at H2 ⊢
    simp only[hws,if_true] at H2 ⊢
    have hep:=execOp_put (ops:=l.toArray) os (by rw[hsop];intro cs b hc;cases hc) a oi.dst u h1
    rcases H2 with H2|⟨H2,H2b⟩
    rotate_left
    ·refine .inr ⟨?_,H2b⟩
     unfold Oper.asks at H2 ⊢
     rw[hep] at H2
     exact H2
    refine .inl ?_
    unfold Oper.wp at H2 ⊢
    rw[hep] at H2
    have hform:(∃w2,(execOp a.eval os).run P w=.ok .skip w2)∨∃y w2,(execOp a.eval os).run P w=.halt y w2:=by
     unfold execOp
     rw[hsop]
     simp only[Sem.run_bind]
     generalize Sem.run P (Instr.storeAt st (a.eval sx) (a.eval sy)) w=r
     cases r with
     | ok y w2=>exact .inl ⟨w2,rfl⟩
     | halt y w2=>exact .inr ⟨y,w2,rfl⟩
    rcases hform with⟨w2,hrun⟩|⟨y,w2,hrun⟩
    rotate_left
    ·rw[hrun] at H2 ⊢
     cases y<;>simp only[Oper.upon] at H2 ⊢
     exact hQ _ _ _ _ _ H2
    rw[hrun] at H2 ⊢
    simp only[Oper.upon,hds] at H2 ⊢
    have ec:(x.setIfInBounds i true).setIfInBounds j true=(x.setIfInBounds j true).setIfInBounds i true:=Array.setIfInBounds_comm _ _ (fun e=>hne e)
    rw[ec] at H2
    have hcl2:Closed .any l.toArray ((x.setIfInBounds j true).setIfInBounds i true):=by
     rw[←ec]
     exact(hcl.set hri).set (ready_mono hj (Ne.symm hne))
    have H3:=ih f H6 _ _ _ (by simpa using hx) hcl2 H2
    have hlist:∀k,k∈Region.ready .any l.toArray (x.setIfInBounds j true)→k=i:=by
     intro k hk
     obtain⟨hk0,o,ho,hall⟩:=mem_ready.1 hk
     rw[A4w] at ho
     have hkl:=(A4v.1 ho).1
     have hc:=A5p.1 hcov k (A5K.2 hkl)
     rw[ho] at hc
     simp only[A6i,beq_iff_eq] at hc
     rcases hc with ((hc|hc)|hc)|hc
     ·exact hc
     ·subst hc
      simp[Array.getD,hx,hkl] at hk0
     ·have:=T3 hcl hj (by rw[A4w];exact hs) hc
      have:=getD_set_true (i:=j) this
      rw[K8 (by simpa[hx] using hkl) false true,hk0] at this
      cases this
     ·obtain⟨e,he,hb⟩:=List.any_eq_true.1 hc
      simp only[A4P,beq_iff_eq] at hb
      have:=hall e (by simpa using he) hb.1
      rw[hb.2,getD_set_ne false (Ne.symm hne),K8 H6 false true,hxi] at this
      cases this
    have hri2:=ready_mono (i:=j) hri hne
    refine⟨fun h0=>(by rw[h0] at hri2;cases hri2),fun k hk=>?_⟩
    obtain rfl:=hlist k hk
    unfold wpOp
    rw[A4w,hi]
    simp only[hwi,if_true]
    refine .inl ?_
    unfold Oper.wp
    rw[show a.put none undef=a from rfl,hu w2]
    exact H3
theorem O8{id:Nat}{a:Act}{w:World}(i s n:Nat){l2:List Oper}(hm:P.follows .mixedOrders=true)(hok:lateOKw i s l=true)(hl:lateL i s l=l2)(hB:frontOK .any (l2.take n) (l2.drop n)=true)
  (hQ:∀(d:Option Tmp) v c a w,Q (.panic c) (a.put d v) w→Q (.panic c) a w)
  (h:wpM P .any l2.toArray w (fun a' F=>∀b w',Cls w w'→(∀x∈F,w.heap.size≤b x.1∧blk w' (b x.1)=some (.cells x.2.1 x.2.2 (0,0)))→(∀x∈F,∀y∈F,x.1≠y.1→b x.1≠b y.1)→wpList P l2.toArray Q (l2.drop n) (a' b) w') (l2.take n) 0 (fun _=>a) []) :
  (Code.region id l.toArray true).wp P Q a w:=by
 subst hl
 have h1:=any_mono hB h
 rw[lateL_len] at h1
 refine wp_region_any hm ?_
 rw[A4V]
 exact any_lateN hok hQ _ _ _ _ H7 (fun j o _ hl=>by simp only[Array.getD] at hl;split at hl<;>simp at hl) h1
end
end
namespace MV
open Go.RowKit
inductive Kind where
 | fix (v:Value)
 | any (Φ:Value→World→Prop)
def Kind.val:Kind→Value→Value
 | .fix v,_=>v
 | .any _,u=>u
abbrev Fact:=Nat × (Value→World→Prop)
def Kind.facts(i:Nat):Kind→List Fact→List Fact
 | .fix _,F=>F
 | .any Φ,F=>(i,Φ)::F
def Mon(Φ:Value→World→Prop):Prop:=∀v w w',Φ v w→Below w.heap.size w w'→Φ v w'
section
variable{P:Program}{md:Region.Mode}
def yieldsAt(P:Program)(o:Oper)(a:Act)(R:Value→World→Prop)(w:World):Prop :=
 match (execOp a.eval o).run P w with
 | .ok (.value v) w'=>R v w'
 | .ok .skip w'=>R undef w'
 | .ok (.enter f args) w'=>Calls P f args w' (fun e w''=>∃v,e=.returned v∧R v w'')
 | _=>False
theorem wp_of_yields{o:Oper}{a:Act}{K:Act→World→Prop}{Q:Exit→Act→World→Prop}{w:World}{R:Value→World→Prop}(h:yieldsAt P o a R w)(hK:∀v w',R v w'→K (a.put o.dst v) w'):o.wp P a w K Q:=by
 unfold yieldsAt at h
 unfold Oper.wp
 generalize (execOp a.eval o).run P w=r at *
 cases r with
 | halt x w'=>exact h.elim
 | ok n w' =>
  cases n<;>simp only at h<;>simp only[Oper.upon]
  case value u=>exact hK _ _ h
  case skip=>exact hK _ _ h
  case enter f args=>exact h.mono fun e w'' he=>by obtain⟨v,rfl,hR⟩:=he;exact hK _ _ hR
def FactsAt(md:Region.Mode)(o:Oper)(F:List Fact)(b:Nat→Value)(w:World):Prop:=∀x∈F,direct md o x.1=true→x.2 (b x.1) w
theorem FactsAt.at{o:Oper}{F:List Fact}{b:Nat→Value}{w:World}{Φ:Value→World→Prop}(i:Nat)(h:FactsAt md o F b w)(hm:(i,Φ)∈F:=by simp)(hd:direct md o i=true:=by decide +kernel):Φ (b i) w:=h _ hm hd
def stepOK(P:Program)(md:Region.Mode)(ops:Array Oper)(W:World)(o:Oper)(a:(Nat→Value)→Act)(F:List Fact):Kind→Prop
 | .fix v=>∀b w',Cls W w'→FactsAt md o F b w'→(Region.wanted o (yielded ops (a b).tmps)=true∧o.quietAt P (a b) (Below w'.heap.size w') w' v)∨(Region.wanted o (yielded ops (a b).tmps)=false∧v=undef)
 | .any Φ=>Mon Φ∧∀b w',Cls W w'→FactsAt md o F b w'→Region.wanted o (yielded ops (a b).tmps)=true∧yieldsAt P o (a b) (fun v w''=>Φ v w''∧Below w'.heap.size w' w'') w'
def wpV(P:Program)(md:Region.Mode)(ops:Array Oper)(W:World)(Q:((Nat→Value)→Act)→List Fact→Prop):List Oper→Nat→((Nat→Value)→Act)→List Fact→Prop
 | [],_,a,F=>Q a F
 | o::rest,i,a,F=>∃κ:Kind,stepOK P md ops W o a F κ∧wpV P md ops W Q rest (i+1) (fun b=>(a b).put o.dst (κ.val (b i))) (κ.facts i F)
def actT:List (Oper × Kind)→Nat→Act→(Nat→Value)→Act
 | [],_,a,_=>a
 | x::r,i,a,b=>actT r (i+1) (a.put x.1.dst (x.2.val (b i))) b
def factsT:List (Oper × Kind)→Nat→List Fact→List Fact
 | [],_,F=>F
 | x::r,i,F=>factsT r (i+1) (x.2.facts i F)
theorem actT_snoc(x:Oper × Kind)(b:Nat→Value):∀(L:List (Oper × Kind))(i:Nat)(a:Act),actT (L++[x]) i a b=(actT L i a b).put x.1.dst (x.2.val (b (i+L.length)))
 | [],_,_=>rfl
 | y::L,i,a=>by
  simp only[A4K,actT,actT_snoc x b L (i+1),A4G]
  rw[show i+1+L.length=i+(L.length+1) by omega]
theorem mem_factsT{f:Fact}:∀(L:List (Oper × Kind))(i:Nat)(F:List Fact),f∈factsT L i F→f∈F∨∃k o,L[k]?=some (o,.any f.2)∧f.1=i+k
 | [],_,_,h=>.inl h
 | x::L,i,F,h=>by
  rcases mem_factsT L (i+1) _ h with h1|⟨k,o,hk,he⟩
  ·obtain⟨o,κ⟩:=x
   cases κ with
   | fix v=>exact .inl h1
   | any Φ =>
    rcases A4O.1 h1 with rfl|h2
    ·exact .inr ⟨0,o,rfl,rfl⟩
    ·exact .inl h2
  ·exact .inr ⟨k+1,o,by simpa using hk,by omega⟩
theorem wpV_out{ops:Array Oper}{W:World}{Q:((Nat→Value)→Act)→List Fact→Prop}:∀(l:List Oper)(i:Nat)(a:(Nat→Value)→Act)(F:List Fact),wpV P md ops W Q l i a F →
  ∃L:List (Oper × Kind),L.map (·.1)=l∧(∀k x,L[k]?=some x→stepOK P md ops W x.1 (fun b=>actT (L.take k) i (a b) b) (factsT (L.take k) i F) x.2)∧Q (fun b=>actT L i (a b) b) (factsT L i F)
 | [],_,_,_,h=>⟨[],rfl,fun k x hk=>by simp at hk,h⟩
 | o::rest,i,a,F,h=>by
  obtain⟨κ,h1,h2⟩:=h
  obtain⟨L,e,h3,h4⟩:=wpV_out rest (i+1) _ _ h2
  refine⟨(o,κ)::L,by simp[e],fun k x hk=>?_,h4⟩
  cases k with
  | zero =>
   simp only[List.getElem?_cons_zero,Option.some.injEq] at hk
   subst hk
   exact h1
  | succ k=>exact h3 k x (by simpa using hk)
def Sees(L:List (Oper × Kind))(a0:Act)(lst:Nat→Bool)(b:Nat→Value)(a:Act):Prop :=
 a.defers=a0.defers∧a.tmps.size=a0.tmps.size ∧
 (∀j x t,L[j]?=some x→x.1.dst=some t→lst j=true→t<a0.tmps.size→a.tmps[t]?=some (x.2.val (b j))) ∧
 (∀t,(∀j x,L[j]?=some x→x.1.dst=some t→lst j=false)→a.tmps[t]?=a0.tmps[t]?)
def Apart(L:List (Oper × Kind)):Prop:=∀(j k:Nat)(x y:Oper × Kind)(t:Tmp),L[j]?=some x→L[k]?=some y→x.1.dst=some t→y.1.dst=some t→j=k
theorem Sees.start(L:List (Oper × Kind))(a0:Act)(b:Nat→Value):Sees L a0 (fun _=>false) b a0:=⟨rfl,rfl,fun _ _ _ _ _ (h:false=true)=>(by cases h),fun _ _=>rfl⟩
theorem Sees.congr{L:List (Oper × Kind)}{a0 a:Act}{l1 l2:Nat→Bool}{b1 b2:Nat→Value}(h:Sees L a0 l1 b1 a)(hl:∀j,j<L.length→l1 j=l2 j)(hb:∀j,j<L.length→l1 j=true→b1 j=b2 j):Sees L a0 l2 b2 a:=by
 have lt:∀{j x},L[j]?=some x→j<L.length:=fun h=>(A4v.1 h).1
 refine⟨h.1,h.2.1,fun j x t hj hd hlj ht=>?_,fun t ht=>h.2.2.2 t fun j x hj hd=>(hl j (lt hj)).trans (ht j x hj hd)⟩
 have h1:l1 j=true:=(hl j (lt hj)).trans hlj
 rw[h.2.2.1 j x t hj hd h1 ht,hb j (lt hj) h1]
theorem Sees.put{L:List (Oper × Kind)}{a0 a:Act}{lst:Nat→Bool}{b:Nat→Value}(hA:Apart L)(h:Sees L a0 lst b a){i:Nat}{x:Oper × Kind}(hi:L[i]?=some x) :
  Sees L a0 (fun j=>j == i || lst j) b (a.put x.1.dst (x.2.val (b i))):=by
 obtain⟨h1,h2,h3,h4⟩:=h
 cases hd:x.1.dst with
 | none =>
  refine⟨h1,h2,fun j y t hj hy hl ht=>?_,fun t ht=>h4 t fun j y hj hy=>?_⟩
  ·refine h3 j y t hj hy ?_ ht
   rcases A6i _ _ ▸ hl with h5|h5
   ·have:j=i:=by simpa using h5
    subst this
    rw[hi] at hj;cases hj;rw[hd] at hy;cases hy
   ·exact h5
  ·have:=ht j y hj hy
   simp only[Bool.or_eq_false_iff] at this
   exact this.2
 | some d =>
  refine⟨h1,by simp[Act.put,h2],fun j y t hj hy hl ht=>?_,fun t ht=>?_⟩
  ·simp only[Act.put]
   by_cases hji:j=i
   ·subst hji
    rw[hi] at hj;cases hj;rw[hd] at hy;cases hy
    simp[h2,ht]
   ·have hne:d≠t:=fun e=>hji (hA j i y x t hj hi hy (by rw[hd,e]))
    rw[A5y hne]
    refine h3 j y t hj hy ?_ ht
    simpa[hji] using hl
  ·simp only[Act.put]
   have hne:d≠t:=fun e=>by
    have:=ht i x hi (by rw[hd,e])
    simp at this
   rw[A5y hne]
   exact h4 t fun j y hj hy=>by
    have:=ht j y hj hy
    simp only[Bool.or_eq_false_iff] at this
    exact this.2
theorem Sees.text{L:List (Oper × Kind)}(hA:Apart L)(a0:Act)(b:Nat→Value):∀k,k≤L.length→Sees L a0 (fun j=>decide (j<k)) b (actT (L.take k) 0 a0 b)
 | 0,_=>(Sees.start L a0 b).congr (fun j _=>by simp) (fun _ _ _=>rfl)
 | k+1,hk=>by
  have hg:L[k]?=some L[k]:=A4y H6
  have h1:=(Sees.text hA a0 b k H6).put hA hg
  rw[A5t H6,actT_snoc]
  have e:0+(L.take k).length=k:=by simp;omega
  rw[e]
  exact h1.congr (fun j _=>by rw[Bool.eq_iff_iff];simp only[A6i,beq_iff_eq,decide_eq_true_eq];omega) (fun _ _ _=>rfl)
theorem Sees.same{L:List (Oper × Kind)}{a0 a1 a2:Act}{l1 l2:Nat→Bool}{b:Nat→Value}(h1:Sees L a0 l1 b a1)(h2:Sees L a0 l2 b a2)(t:Tmp)(ht:∀j x,L[j]?=some x→x.1.dst=some t→l1 j=true∧l2 j=true) :
  a1.tmps[t]?=a2.tmps[t]?:=by
 by_cases hj:∃(j:Nat)(x:Oper × Kind),L[j]?=some x∧x.1.dst=some t
 ·obtain⟨j,x,hj,hd⟩:=hj
  rcases A6t t a0.tmps.size with h|h
  ·rw[h1.2.2.1 j x t hj hd (ht j x hj hd).1 h,h2.2.2.1 j x t hj hd (ht j x hj hd).2 h]
  ·rw[A5m (by rw[h1.2.1];exact h),A5m (by rw[h2.2.1];exact h)]
 ·have hn:∀(l:Nat→Bool) j x,L[j]?=some x→x.1.dst=some t→l j=false:=fun l j x h3 h4=>(hj ⟨j,x,h3,h4⟩).elim
  rw[h1.2.2.2 t (hn l1),h2.2.2.2 t (hn l2)]
def New(W:World)(L:List (Oper × Kind))(lst:Nat→Bool)(b:Nat→Value)(w:World):Prop :=
 Cls W w∧∀(j:Nat)(o:Oper)(Φ:Value→World→Prop),L[j]?=some (o,Kind.any Φ)→lst j=true→Φ (b j) w
theorem New.step{W w w':World}{L:List (Oper × Kind)}{l1 l2:Nat→Bool}{b:Nat→Value}(hM:∀(j:Nat)(o:Oper)(Φ:Value→World→Prop),L[j]?=some (o,Kind.any Φ)→Mon Φ)(h:New W L l1 b w)(hb:Below w.heap.size w w')(hl:∀(j:Nat)(o:Oper)(Φ:Value→World→Prop),L[j]?=some (o,Kind.any Φ)→l2 j=true→l1 j=true):New W L l2 b w' :=
 ⟨h.1.step hb,fun j o Φ hj hl2=>hM j o Φ hj _ _ _ (h.2 j o Φ hj (hl j o Φ hj hl2)) hb⟩
theorem New.lay{W w w':World}{L:List (Oper × Kind)}{lst:Nat→Bool}{b:Nat→Value}(hM:∀(j:Nat)(o:Oper)(Φ:Value→World→Prop),L[j]?=some (o,Kind.any Φ)→Mon Φ)(h:New W L lst b w){i:Nat}{o:Oper}{Φ:Value→World→Prop}(hi:L[i]?=some (o,.any Φ)){v:Value}(hv:Φ v w')(hb:Below w.heap.size w w') :
  New W L (fun j=>j == i || lst j) (fun j=>if j=i then v else b j) w':=by
 refine⟨h.1.step hb,fun j o' Φ' hj hl=>?_⟩
 dsimp only
 by_cases hji:j=i
 ·subst hji
  rw[hi] at hj;cases hj
  rw[if_pos rfl]
  exact hv
 ·rw[if_neg hji]
  exact hM j o' Φ' hj _ _ _ (h.2 j o' Φ' hj (by simpa[hji] using hl)) hb
theorem any_front{Q:Exit→Act→World→Prop}{l T:List Oper}{W:World}{a0:Act}{L:List (Oper × Kind)}(hB:frontOK md l T=true)(hL:L.map (·.1)=l)
  (hstep:∀k x,L[k]?=some x→stepOK P md (l++T).toArray W x.1 (fun b=>actT (L.take k) 0 a0 b) (factsT (L.take k) 0 []) x.2)
  (hQ:∀b w',New W L (fun _=>true) b w'→wpList P (l++T).toArray Q T (actT L 0 a0 b) w') :
  ∀(fuel:Nat)(listed:Array Bool)(b:Nat→Value)(a:Act)(w:World),listed.size=(l++T).length→Closed md (l++T).toArray listed→(∀j,l.length≤j→j<(l++T).length→listed.getD j true=false)→left listed≤fuel →
   Sees L a0 (fun j=>listed.getD j false) b a→New W L (fun j=>listed.getD j false) b w→wpAny P md (l++T).toArray Q fuel listed a w:=by
 simp only[frontOK,A4P] at hB
 obtain⟨⟨⟨hsel,hdn⟩,hT⟩,hall⟩:=hB
 have hLl:L.length=l.length:=by rw[←hL];simp
 have hM:∀(j:Nat)(o:Oper)(Φ:Value→World→Prop),L[j]?=some (o,Kind.any Φ)→Mon Φ:=fun j o Φ hj=>(hstep j _ hj).1
 have hlo:∀{i:Nat}{x:Oper × Kind},L[i]?=some x→l[i]?=some x.1:=fun {i x} h=>by rw[←hL];simp[h]
 have hpair:∀{i j:Nat}{x y:Oper × Kind}{t:Tmp},L[i]?=some x→L[j]?=some y→y.1.dst=some t →
   ((i=j∨x.1.dst≠some t)∧(t∈x.1.looksAt (l++T).toArray→j<i∧direct md x.1 j=true)):=fun {i j x y t} hi hj hd=>by
  have hil:i<l.length:=by rw[←hLl];exact(A4v.1 hi).1
  have hjl:j<l.length:=by rw[←hLl];exact(A4v.1 hj).1
  have h1:=A5p.1 hall i (A5K.2 hil)
  simp only[hlo hi] at h1
  have h2:=A5p.1 h1 j (A5K.2 hjl)
  simp only[hlo hj,hd,A4P,A6i,beq_iff_eq,bne_iff_ne,Bool.not_eq_true',decide_eq_true_eq] at h2
  refine⟨h2.1,fun ht=>h2.2.resolve_left ?_⟩
  simp[ht]
 have hA:Apart L:=fun j k x y t hj hk hx hy=>((hpair hj hk hy).1).resolve_right fun h=>h hx
 have hfin:∀(fuel:Nat)(listed:Array Bool)(b:Nat→Value)(a:Act)(w:World),listed.size=(l++T).length→Closed md (l++T).toArray listed→(∀j,l.length≤j→j<(l++T).length→listed.getD j true=false)→left listed≤fuel →
   Sees L a0 (fun j=>listed.getD j false) b a→New W L (fun j=>listed.getD j false) b w→(∀j,j<l.length→listed.getD j false=true)→wpAny P md (l++T).toArray Q fuel listed a w:=by
  intro fuel listed b a w hsz hcl hu hf hS hN hdone
  have ha:a=actT L 0 a0 b:=by
   have h2:=Sees.text hA a0 b L.length (A4C _)
   rw[A6M] at h2
   have ht:a.tmps=(actT L 0 a0 b).tmps:=A5D fun t=>hS.same h2 t fun j x hj _=>by
    have hjl:j<L.length:=(A4v.1 hj).1
    exact⟨hdone j H6,by simpa using hjl⟩
   have hd:a.defers=(actT L 0 a0 b).defers:=hS.1.trans h2.1.symm
   cases a
   cases h:actT L 0 a0 b
   rw[h] at ht hd
   simp only at ht hd
   rw[ht,hd]
  subst ha
  have hN':New W L (fun _=>true) b w:=hN.step hM (Below.refl _ _) fun j o Φ hj _=>hdone j D0
  exact any_tail hdn hT T 0 fuel listed _ w rfl hsz hcl (fun j hj=>hdone j G1) (fun j hj hj2=>hu j G1 hj2) hf (hQ b w hN')
 intro fuel
 induction fuel with
 | zero =>
  intro listed b a w hsz hcl hu hf hS hN
  refine hfin 0 listed b a w hsz hcl hu hf hS hN fun j hj=>?_
  cases hv:listed.getD j false with
  | true=>rfl
  | false =>
   rw[K8 D2 false true] at hv
   have:=A0U hv;omega
 | succ fuel ih =>
  intro listed b a w hsz hcl hu hf hS hN
  by_cases hdone:∀j,j<l.length→listed.getD j false=true
  ·exact hfin (fuel+1) listed b a w hsz hcl hu hf hS hN hdone
  ·simp only[Classical.not_forall] at hdone
   obtain⟨m,hm,hmu⟩:=hdone
   have hmu':listed.getD m false=false:=by simpa using hmu
   have hmt:listed.getD m true=false:=by rw[K8 D2 true false];exact hmu'
   refine⟨fun h0=>absurd h0 (T7 hdn hsz m (by simp only[A4p];omega) hmt),fun i hi=>?_⟩
   obtain⟨hiu,oi,hoi,_⟩:=mem_ready.1 hi
   have hi':i<(l++T).length:=by simpa using (A4H.1 hoi).1
   have hil:i<l.length:=by
    rcases A6t i l.length with h'|h'
    ·exact h'
    ·have hoT:T[i - l.length]?=some oi:=by
      simp only[A4w] at hoi
      rwa [A4Q h'] at hoi
     have:=T3 hcl hi hoi (W6 hT hoT (i:=m) H6)
     rw[hmu'] at this;cases this
   have hgx:L[i]?=some (L[i]'H6):=A4y H6
   generalize L[i]'H6=x at hgx
   have hox:oi=x.1:=by
    simp only[A4w] at hoi
    rw[A4M hil,hlo hgx] at hoi
    exact(Option.some.inj hoi).symm
   subst hox
   have hsel':∀cs b,x.1.op≠.select cs b:=fun cs b=>Region.noSelect_spec hsel i x.1 cs b (by simpa using hlo hgx)
   have htext:=Sees.text hA a0 b i H6
   have hiu':listed.getD i false=false:=by rw[K8 H6 false true];exact hiu
   -- the frame in the text's order looks the same to this operation
   have hsame:=A2L (ops:=(l++T).toArray) hsel' (a1:=a) (a2:=actT (L.take i) 0 a0 b) fun t ht=>hS.same htext t fun j y hj hd=>by
    have h1:=(hpair hgx hj hd).2 ht
    exact⟨Q4 hi hoi h1.2,by simpa using h1.1⟩
   have hF:FactsAt md x.1 (factsT (L.take i) 0 []) b w:=fun f hf hd=>by
    rcases mem_factsT _ _ _ hf with h1|⟨k,o,hk,he⟩
    ·cases h1
    ·have hk':L[k]?=some (o,.any f.2):=by
      rw[A5h] at hk
      split at hk
      ·exact hk
      ·cases hk
     have:f.1=k:=by omega
     rw[this] at hd ⊢
     exact hN.2 k o _ hk' (Q4 hi hoi hd)
   have hst:=hstep i x hgx
   have hset:∀j,j<L.length→(j == i || listed.getD j false)=(listed.setIfInBounds i true).getD j false:=fun j hj=>by
    by_cases hji:i=j
    ·subst hji
     simp[Array.getD,show i<listed.size by omega]
    ·rw[getD_set_ne false hji];simp[Ne.symm hji]
   have hu':∀j,l.length≤j→j<(l++T).length→(listed.setIfInBounds i true).getD j true=false:=fun j hj hj2=>by
    rw[getD_set_ne true H6];exact hu j hj hj2
   have hf':left (listed.setIfInBounds i true)≤fuel:=by have:=A0o hiu;omega
   have hgo:∀(b':Nat→Value)(w':World),Sees L a0 (fun j=>j == i || listed.getD j false) b' (a.put x.1.dst (x.2.val (b' i)))→New W L (fun j=>j == i || listed.getD j false) b' w' →
     wpAny P md (l++T).toArray Q fuel (listed.setIfInBounds i true) (a.put x.1.dst (x.2.val (b' i))) w':=fun b' w' hS' hN' =>
    ih _ b' _ w' F9 (hcl.set hi) hu' hf' (hS'.congr hset (fun _ _ _=>rfl)) (hN'.step hM (Below.refl _ _) fun j o Φ hj hl=>by
     rw[hset j (A4v.1 hj).1];exact hl)
   obtain⟨o,κ⟩:=x
   unfold wpOp
   rw[hoi]
   simp only
   cases κ with
   | fix v =>
    have hkeep:∀w',Below w.heap.size w w'→New W L (fun j=>j == i || listed.getD j false) b w':=fun w' hb=>hN.step hM hb fun j o' Φ hj hl=>by
     by_cases hji:j=i
     ·subst hji;rw[hgx] at hj;cases hj
     ·simpa[hji] using hl
    have hS':=hS.put hA hgx
    rcases hst b w hN.1 hF with⟨hw,hq⟩|⟨hw,hv⟩
    ·rw[←hsame.2] at hw
     rw[if_pos hw]
     refine .inl (wp_of_at (C:=Below w.heap.size w) (Below.refl _ _) (v:=v) ?_ fun w' hb=>hgo b w' hS' (hkeep w' hb))
     unfold Oper.quietAt at hq ⊢
     rw[hsame.1]
     exact hq
    ·rw[←hsame.2] at hw
     rw[if_neg (by rw[hw];decide)]
     have h1:=hgo b w hS' (hkeep w (Below.refl _ _))
     simp only[Kind.val,hv] at h1
     exact h1
   | any Φ =>
    obtain⟨hMon,hst⟩:=hst
    obtain⟨hw,hr⟩:=hst b w hN.1 hF
    rw[←hsame.2] at hw
    rw[if_pos hw]
    refine .inl (wp_of_yields (R:=fun v w''=>Φ v w''∧Below w.heap.size w w'') ?_ fun v w' hv=>?_)
    ·unfold yieldsAt at hr ⊢
     rw[hsame.1]
     exact hr
    ·have hN':=hN.lay hM hgx hv.1 hv.2
     have hS1:Sees L a0 (fun j=>listed.getD j false) (fun j=>if j=i then v else b j) a:=hS.congr (fun _ _=>rfl) fun j _ hl=>by
      rw[if_neg]
      intro e
      subst e
      rw[hiu'] at hl;cases hl
     have hS':=hS1.put hA hgx
     have h1:=hgo _ _ hS' hN'
     simpa[Kind.val] using h1
theorem region_val{id:Nat}{Q:Exit→Act→World→Prop}{a:Act}{w:World}(l T:List Oper)(hm:P.follows .mixedOrders=true)(hB:frontOK .any l T=true)
  (h:wpV P .any (l++T).toArray w (fun a' F=>∀b w',Cls w w'→(∀x∈F,x.2 (b x.1) w')→wpList P (l++T).toArray Q T (a' b) w') l 0 (fun _=>a) []) :
  (Code.region id (l++T).toArray true).wp P Q a w:=by
 obtain⟨L,hL,hstep,hQ⟩:=wpV_out l 0 _ [] h
 refine wp_region_any hm (any_front hB hL hstep (fun b w' hN=>hQ b w' hN.1 (fun x hx=>?_)) _ _ (fun _=>undef) a _ H7 (fun j o _ hl=>by simp only[Array.getD] at hl;split at hl<;>simp at hl) (fun j _ hj=>by simp only[A4p] at hj;simp[Array.getD];omega) ?_ ?_ ?_)
 ·rcases mem_factsT _ _ _ hx with h1|⟨k,o,hk,he⟩
  ·cases h1
  ·have:x.1=k:=by omega
   rw[this]
   exact hN.2 k o _ hk rfl
 ·unfold left
  exact A4T A6r H7
 ·refine(Sees.start L a (fun _=>undef)).congr (fun j _=>?_) (fun _ _ _=>rfl)
  simp only[Array.getD]
  split<;>simp
 ·refine⟨⟨rfl,rfl,rfl,A4C _,fun _ _=>rfl⟩,fun j o Φ hj hl=>?_⟩
  simp only[Array.getD] at hl
  split at hl<;>simp at hl
theorem region_val_lit{id:Nat}{Q:Exit→Act→World→Prop}{a:Act}{w:World}{l:List Oper}(n:Nat)(hm:P.follows .mixedOrders=true)(hB:frontOK .any (l.take n) (l.drop n)=true)
  (h:wpV P .any l.toArray w (fun a' F=>∀b w',Cls w w'→(∀x∈F,x.2 (b x.1) w')→wpList P l.toArray Q (l.drop n) (a' b) w') (l.take n) 0 (fun _=>a) []) :
  (Code.region id l.toArray true).wp P Q a w:=by
 have:=region_val (P:=P) (id:=id) (Q:=Q) (a:=a) (w:=w) (l.take n) (l.drop n) hm hB (by rwa [A4L])
 rwa [A4L] at this
variable{ops:Array Oper}{W:World}{Q:((Nat→Value)→Act)→List Fact→Prop}{o:Oper}{rest:List Oper}{i:Nat}{a:(Nat→Value)→Act}{F:List Fact}
theorem wpV_nil(h:Q a F):wpV P md ops W Q [] i a F:=h
theorem wpV_want(hw:∀b,Region.wanted o (yielded ops (a b).tmps)=true)
  (h:∀K:((Nat→Value)→Act)→List Fact→Prop,(∀a F,wpV P md ops W Q rest (i+1) a F→K a F)→∃v,(∀b w',Cls W w'→FactsAt md o F b w'→o.quietAt P (a b) (Below w'.heap.size w') w' v)∧K (fun b=>(a b).put o.dst v) F):wpV P md ops W Q (o::rest) i a F:=by
 obtain⟨v,h1,h2⟩:=h (fun a F=>wpV P md ops W Q rest (i+1) a F) (fun _ _ h=>h)
 exact⟨.fix v,fun b w' hw' hF=>.inl ⟨hw b,h1 b w' hw' hF⟩,h2⟩
theorem wpV_same(Φ:Value→World→Prop)(hM:Mon Φ)(hw:∀b,Region.wanted o (yielded ops (a b).tmps)=true)(hy:∀b w',Cls W w'→FactsAt md o F b w'→yieldsAt P o (a b) (fun v w''=>Φ v w''∧Below w'.heap.size w' w'') w')
  (h:wpV P md ops W Q rest (i+1) (fun b=>(a b).put o.dst (b i)) ((i,Φ)::F)):wpV P md ops W Q (o::rest) i a F :=
 ⟨.any Φ,⟨hM,fun b w' hw' hF=>⟨hw b,hy b w' hw' hF⟩⟩,h⟩
theorem yields_call{x:Operand}{xs:Array Operand}{ts:Array TypeId}{f:FuncId}{first caps:Array Value}{vs:List Value}{args:Array Value}{a:Act}{w:World}{R:Value→World→Prop}(hc:Calls P f args w (fun e w''=>∃v,e=.returned v∧R v w''))
  (hop:o.op=.call { callee:=.value x,args:=xs,argTypes:=ts }:=by rfl)(hx:evO a x=some (.func (.func f) first caps):=by rfl)(hxs:evs a xs.toList=some vs:=by rfl)(hA:(first.toList++vs++caps.toList).toArray=args:=by rfl)(hf:GoF P f:=by infer_instance):yieldsAt P o a R w:=by
 have hr:(execOp a.eval o).run P w=.ok (.enter f args) w:=by
  unfold execOp;rw[hop]
  have e1:xs.map a.eval=vs.toArray:=by
   have:=A0w hxs
   apply Array.ext'
   simp[this]
  have e2:first++xs.map a.eval++caps=args:=by
   rw[e1,←hA]
   apply Array.ext'
   simp
  simp only[resolve,I3 hx,Deferred.ofValue,Sem.run_bind,Sem.run_pure,Result.andThen_ok,invoke,e2]
  exact A2f hf.is
 unfold yieldsAt
 rw[hr]
 exact hc
end
end MV
section
open Go.ChangeShapes Go.WideShapes Go.ChangeAt Go.RowKit
attribute [local irreducible] wpList wpListIn Oper.quietAt wpM
theorem W8{P:Program}{o:Oper}{x:Operand}{v:Value}{a:Act}{w:World}{R:Value→World→Prop}(h:R v w)(hop:o.op=.move x:=by rfl)(hx:evO a x=some v:=by rfl):MV.yieldsAt P o a R w:=by
 have hr:(execOp a.eval o).run P w=.ok (.value v) w:=by
  unfold execOp;rw[hop]
  simp[I3 hx]
 unfold MV.yieldsAt;rw[hr];exact h
theorem N6{P:Program}{o:Oper}{x:Operand}{v:Value}{a:Act}{w:World}{R:Value→World→Prop}(h:R v w)(hop:o.op=.assign x:=by rfl)(hx:evO a x=some v:=by rfl):MV.yieldsAt P o a R w:=by
 have hr:(execOp a.eval o).run P w=.ok (.value v) w:=by
  unfold execOp;rw[hop]
  simp[I3 hx]
 unfold MV.yieldsAt;rw[hr];exact h
theorem A3h{w w':World}{g:Nat}{cs:Array Value}{t:TypeId}{fr:Nat × Nat}(h:blk w g=some (.cells cs t fr))(hb:Below w.heap.size w w'):blk w' g=some (.cells cs t fr):=(hb.block g (J5 h)).trans h
def PhA(B n:Nat)(ty:TypeId)(K:Nat→Array Value→Prop)(v:Value)(w:World):Prop:=∃g c cs,v=.tuple #[.slice (some ⟨g,0,none⟩) n c,.nilIface]∧B≤g∧blk w g=some (.cells cs ty (0,0))∧K c cs
def PhB(B n:Nat)(ty:TypeId)(K:Nat→Array Value→Prop)(v:Value)(w:World):Prop:=∃g c cs,v=.slice (some ⟨g,0,none⟩) n c∧B≤g∧blk w g=some (.cells cs ty (0,0))∧K c cs
def PhC(v:Value)(_:World):Prop:=v=.nilIface
section
variable{P:Program}{o:Oper}{x:Operand}{u:Value}{a:Act}{w w':World}{B n:Nat}{ty:TypeId}{K:Nat→Array Value→Prop}
theorem X6:MV.Mon (PhA B n ty K):=fun _ _ _ ⟨g,c,cs,h1,h2,h3,h4⟩ hb=>⟨g,c,cs,h1,h2,(A3h h3 hb),h4⟩
theorem Z0:MV.Mon (PhB B n ty K):=fun _ _ _ ⟨g,c,cs,h1,h2,h3,h4⟩ hb=>⟨g,c,cs,h1,h2,(A3h h3 hb),h4⟩
theorem Y9:MV.Mon PhC:=fun _ _ _ h _=>h
theorem A1w{f:FuncId}{args:Array Value}(hc:Calls P f args w' (fun e w''=>∃g c cs,e=.returned (.tuple #[.slice (some ⟨g,0,none⟩) n c,.nilIface])∧w'.heap.size≤g∧blk w'' g=some (.cells cs ty (0,0))∧K c cs∧Below w'.heap.size w' w''))(hB:Cls w w'):Calls P f args w' (fun e w''=>∃v,e=.returned v∧(PhA w.heap.size n ty K v w''∧Below w'.heap.size w' w'')) :=
 hc.mono fun e w'' ⟨g,c,cs,h1,h2,h3,h4,h5⟩=>⟨_,h1,⟨g,c,cs,rfl,A4T hB.size h2,h3,h4⟩,h5⟩
theorem A1t(h:PhA B n ty K u w)(hop:o.op=.extract x 0:=by rfl)(hx:evO a x=some u:=by rfl):MV.yieldsAt P o a (fun v w''=>PhB B n ty K v w''∧Below w.heap.size w w'') w:=by
 obtain⟨g,c,cs,rfl,h1,h2,h3⟩:=h
 unfold MV.yieldsAt execOp
 rw[hop]
 simp only[I3 hx,Instr.extract]
 exact⟨⟨g,c,cs,rfl,h1,h2,h3⟩,Below.refl _ _⟩
theorem A1p(h:PhA B n ty K u w)(hop:o.op=.extract x 1:=by rfl)(hx:evO a x=some u:=by rfl):MV.yieldsAt P o a (fun v w''=>PhC v w''∧Below w.heap.size w w'') w:=by
 obtain⟨g,c,cs,rfl,h1,h2,h3⟩:=h
 unfold MV.yieldsAt execOp
 rw[hop]
 simp only[I3 hx,Instr.extract]
 exact⟨rfl,Below.refl _ _⟩
theorem Own.take{Bd:Nat}{H:World→List Blk→Prop}(hH:Own Bd H){W:World}{L:List Blk}{g:Nat}{cs:Array Value}(h:H w L)(h0:H W L)(hg:W.heap.size≤g)(hb:Go.Proofs.YtggbbafanhceaaaGreatRR.blk w g=some (.cells cs ty (0,0))):H w ((g,cs,ty)::L) :=
 hH.add h h0 hg (fun hm=>by have:=hH.lt h0 hm;omega) hb
end
end
end Go.Proofs.YtggbbafanhceaaaGreatRR
