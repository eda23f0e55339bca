/- Laws that the claim uses. No condition of their own. -/
import Derived.Test.YtlfbfbbdpcihfaaGreatJ09
set_option maxRecDepth 100000
set_option maxHeartbeats 8000000
set_option linter.all false
namespace Go.Proofs.YtlfbfbbdpcihfaaGreat
namespace MV
open Go.RowKit
inductive Kind where
 | fix (v:Value)
 | any (Φ:Value->World->Prop)
def Kind.val:Kind->Value->Value
 | .fix v,_=>v
 | .any _,u=>u
abbrev Fact:=Nat × (Value->World->Prop)
def Kind.facts(i:Nat):Kind->List Fact->List Fact
 | .fix _,F=>F
 | .any Φ,F=>(i,Φ)::F
def Mon(Φ:Value->World->Prop):Prop:=∀v w w',Φ v w->Below w.heap.size w w'->Φ v w'
section
variable{P:Program}{md:Region.Mode}
def yieldsAt(P:Program)(o:Oper)(a:Act)(R:Value->World->Prop)(w:World):Prop :=
 match (execOp a.eval o).run P w with
 | .ok (.value v) w'=>R v w'
 | .ok .skip w'=>R undef w'
 | .ok (.enter f args) w'=>Calls P f args w' (fun e w''=>∃v,e=.returned v/\R v w'')
 | _=>False
theorem wp_of_yields{o:Oper}{a:Act}{K:Act->World->Prop}{Q:Exit->Act->World->Prop}{w:World}{R:Value->World->Prop}(h:yieldsAt P o a R w)(hK:∀v w',R v w'->K (a.put o.dst v) w'):o.wp P a w K Q:=by
 unfold yieldsAt at h
 unfold Oper.wp
 generalize (execOp a.eval o).run P w=r at *
 cases r with
 | halt x w'=>exact h.elim
 | ok n w' =>
  cases n<;>simp only at h<;>simp only[Oper.upon]
  case value u=>exact hK _ _ h
  case skip=>exact hK _ _ h
  case enter f args=>exact h.mono fun e w'' he=>by obtain⟨v,rfl,hR⟩:=he;exact hK _ _ hR
def FactsAt(md:Region.Mode)(o:Oper)(F:List Fact)(b:Nat->Value)(w:World):Prop:=∀x∈F,direct md o x.1=true->x.2 (b x.1) w
theorem FactsAt.at{o:Oper}{F:List Fact}{b:Nat->Value}{w:World}{Φ:Value->World->Prop}(i:Nat)(h:FactsAt md o F b w)(hm:(i,Φ)∈F:=by simp)(hd:direct md o i=true:=by decide +kernel):Φ (b i) w:=h _ hm hd
def stepOK(P:Program)(md:Region.Mode)(ops:Array Oper)(W:World)(o:Oper)(a:(Nat->Value)->Act)(F:List Fact):Kind->Prop
 | .fix v=>∀b w',Cls W w'->FactsAt md o F b w'->(Region.wanted o (yielded ops (a b).tmps)=true/\o.quietAt P (a b) (Below w'.heap.size w') w' v)\/(Region.wanted o (yielded ops (a b).tmps)=false/\v=undef)
 | .any Φ=>Mon Φ/\∀b w',Cls W w'->FactsAt md o F b w'->Region.wanted o (yielded ops (a b).tmps)=true/\yieldsAt P o (a b) (fun v w''=>Φ v w''/\Below w'.heap.size w' w'') w'
def wpV(P:Program)(md:Region.Mode)(ops:Array Oper)(W:World)(Q:((Nat->Value)->Act)->List Fact->Prop):List Oper->Nat->((Nat->Value)->Act)->List Fact->Prop
 | [],_,a,F=>Q a F
 | o::rest,i,a,F=>∃κ:Kind,stepOK P md ops W o a F κ/\wpV P md ops W Q rest (i+1) (fun b=>(a b).put o.dst (κ.val (b i))) (κ.facts i F)
def actT:List (Oper × Kind)->Nat->Act->(Nat->Value)->Act
 | [],_,a,_=>a
 | x::r,i,a,b=>actT r (i+1) (a.put x.1.dst (x.2.val (b i))) b
def factsT:List (Oper × Kind)->Nat->List Fact->List Fact
 | [],_,F=>F
 | x::r,i,F=>factsT r (i+1) (x.2.facts i F)
theorem actT_snoc(x:Oper × Kind)(b:Nat->Value):∀(L:List (Oper × Kind))(i:Nat)(a:Act),actT (L++[x]) i a b=(actT L i a b).put x.1.dst (x.2.val (b (i+L.length)))
 | [],_,_=>rfl
 | y::L,i,a=>by
  simp only[A3F,actT,actT_snoc x b L (i+1),A3D]
  rw[show i+1+L.length=i+(L.length+1) by omega]
theorem mem_factsT{f:Fact}:∀(L:List (Oper × Kind))(i:Nat)(F:List Fact),f∈factsT L i F->f∈F\/∃k o,L[k]?=some (o,.any f.2)/\f.1=i+k
 | [],_,_,h=>.inl h
 | x::L,i,F,h=>by
  rcases mem_factsT L (i+1) _ h with h1|⟨k,o,hk,he⟩
  ·obtain⟨o,κ⟩:=x
   cases κ with
   | fix v=>exact .inl h1
   | any Φ =>
    rcases A3G.1 h1 with rfl|h2
    ·exact .inr ⟨0,o,rfl,rfl⟩
    ·exact .inl h2
  ·exact .inr ⟨k+1,o,by simpa using hk,by omega⟩
theorem wpV_out{ops:Array Oper}{W:World}{Q:((Nat->Value)->Act)->List Fact->Prop}:∀(l:List Oper)(i:Nat)(a:(Nat->Value)->Act)(F:List Fact),wpV P md ops W Q l i a F ->
  ∃L:List (Oper × Kind),L.map (·.1)=l/\(∀k x,L[k]?=some x->stepOK P md ops W x.1 (fun b=>actT (L.take k) i (a b) b) (factsT (L.take k) i F) x.2)/\Q (fun b=>actT L i (a b) b) (factsT L i F)
 | [],_,_,_,h=>⟨[],rfl,fun k x hk=>by simp at hk,h⟩
 | o::rest,i,a,F,h=>by
  obtain⟨κ,h1,h2⟩:=h
  obtain⟨L,e,h3,h4⟩:=wpV_out rest (i+1) _ _ h2
  refine⟨(o,κ)::L,by simp[e],fun k x hk=>?_,h4⟩
  cases k with
  | zero =>
   simp only[A4Z,Option.some.injEq] at hk
   subst hk
   exact h1
  | succ k=>exact h3 k x (by simpa using hk)
def Sees(L:List (Oper × Kind))(a0:Act)(lst:Nat->Bool)(b:Nat->Value)(a:Act):Prop :=
 a.defers=a0.defers/\a.tmps.size=a0.tmps.size /\
 (∀j x t,L[j]?=some x->x.1.dst=some t->lst j=true->t<a0.tmps.size->a.tmps[t]?=some (x.2.val (b j))) /\
 (∀t,(∀j x,L[j]?=some x->x.1.dst=some t->lst j=false)->a.tmps[t]?=a0.tmps[t]?)
def Apart(L:List (Oper × Kind)):Prop:=∀(j k:Nat)(x y:Oper × Kind)(t:Tmp),L[j]?=some x->L[k]?=some y->x.1.dst=some t->y.1.dst=some t->j=k
theorem Sees.start(L:List (Oper × Kind))(a0:Act)(b:Nat->Value):Sees L a0 (fun _=>false) b a0:=⟨rfl,rfl,fun _ _ _ _ _ (h:false=true)=>(by cases h),fun _ _=>rfl⟩
theorem Sees.congr{L:List (Oper × Kind)}{a0 a:Act}{l1 l2:Nat->Bool}{b1 b2:Nat->Value}(h:Sees L a0 l1 b1 a)(hl:∀j,j<L.length->l1 j=l2 j)(hb:∀j,j<L.length->l1 j=true->b1 j=b2 j):Sees L a0 l2 b2 a:=by
 have lt:∀{j x},L[j]?=some x->j<L.length:=fun h=>(A3n.1 h).1
 refine⟨h.1,h.2.1,fun j x t hj hd hlj ht=>?_,fun t ht=>h.2.2.2 t fun j x hj hd=>(hl j (lt hj)).trans (ht j x hj hd)⟩
 have h1:l1 j=true:=(hl j (lt hj)).trans hlj
 rw[h.2.2.1 j x t hj hd h1 ht,hb j (lt hj) h1]
theorem Sees.put{L:List (Oper × Kind)}{a0 a:Act}{lst:Nat->Bool}{b:Nat->Value}(hA:Apart L)(h:Sees L a0 lst b a){i:Nat}{x:Oper × Kind}(hi:L[i]?=some x) :
  Sees L a0 (fun j=>j == i || lst j) b (a.put x.1.dst (x.2.val (b i))):=by
 obtain⟨h1,h2,h3,h4⟩:=h
 cases hd:x.1.dst with
 | none =>
  refine⟨h1,h2,fun j y t hj hy hl ht=>?_,fun t ht=>h4 t fun j y hj hy=>?_⟩
  ·refine h3 j y t hj hy ?_ ht
   rcases A4S _ _ ▸ hl with h5|h5
   ·have:j=i:=by simpa using h5
    subst this
    rw[hi] at hj;cases hj;rw[hd] at hy;cases hy
   ·exact h5
  ·have:=ht j y hj hy
   simp only[Bool.or_eq_false_iff] at this
   exact this.2
 | some d =>
  refine⟨h1,by simp[Act.put,h2],fun j y t hj hy hl ht=>?_,fun t ht=>?_⟩
  ·simp only[Act.put]
   by_cases hji:j=i
   ·subst hji
    rw[hi] at hj;cases hj;rw[hd] at hy;cases hy
    simp[h2,ht]
   ·have hne:d≠t:=fun e=>hji (hA j i y x t hj hi hy (by rw[hd,e]))
    rw[A4r hne]
    refine h3 j y t hj hy ?_ ht
    simpa[hji] using hl
  ·simp only[Act.put]
   have hne:d≠t:=fun e=>by
    have:=ht i x hi (by rw[hd,e])
    simp at this
   rw[A4r hne]
   exact h4 t fun j y hj hy=>by
    have:=ht j y hj hy
    simp only[Bool.or_eq_false_iff] at this
    exact this.2
theorem Sees.text{L:List (Oper × Kind)}(hA:Apart L)(a0:Act)(b:Nat->Value):∀k,k<=L.length->Sees L a0 (fun j=>decide (j<k)) b (actT (L.take k) 0 a0 b)
 | 0,_=>(Sees.start L a0 b).congr (fun j _=>by simp) (fun _ _ _=>rfl)
 | k+1,hk=>by
  have hg:L[k]?=some L[k]:=A3p E9
  have h1:=(Sees.text hA a0 b k E9).put hA hg
  rw[A4u E9,actT_snoc]
  have e:0+(L.take k).length=k:=by simp;omega
  rw[e]
  exact h1.congr (fun j _=>by rw[Bool.eq_iff_iff];simp only[A4S,beq_iff_eq,decide_eq_true_eq];omega) (fun _ _ _=>rfl)
theorem Sees.same{L:List (Oper × Kind)}{a0 a1 a2:Act}{l1 l2:Nat->Bool}{b:Nat->Value}(h1:Sees L a0 l1 b a1)(h2:Sees L a0 l2 b a2)(t:Tmp)(ht:∀j x,L[j]?=some x->x.1.dst=some t->l1 j=true/\l2 j=true) :
  a1.tmps[t]?=a2.tmps[t]?:=by
 by_cases hj:∃(j:Nat)(x:Oper × Kind),L[j]?=some x/\x.1.dst=some t
 ·obtain⟨j,x,hj,hd⟩:=hj
  rcases A5n t a0.tmps.size with h|h
  ·rw[h1.2.2.1 j x t hj hd (ht j x hj hd).1 h,h2.2.2.1 j x t hj hd (ht j x hj hd).2 h]
  ·rw[A4v (by rw[h1.2.1];exact h),A4v (by rw[h2.2.1];exact h)]
 ·have hn:∀(l:Nat->Bool) j x,L[j]?=some x->x.1.dst=some t->l j=false:=fun l j x h3 h4=>(hj ⟨j,x,h3,h4⟩).elim
  rw[h1.2.2.2 t (hn l1),h2.2.2.2 t (hn l2)]
def New(W:World)(L:List (Oper × Kind))(lst:Nat->Bool)(b:Nat->Value)(w:World):Prop :=
 Cls W w/\∀(j:Nat)(o:Oper)(Φ:Value->World->Prop),L[j]?=some (o,Kind.any Φ)->lst j=true->Φ (b j) w
theorem New.step{W w w':World}{L:List (Oper × Kind)}{l1 l2:Nat->Bool}{b:Nat->Value}(hM:∀(j:Nat)(o:Oper)(Φ:Value->World->Prop),L[j]?=some (o,Kind.any Φ)->Mon Φ)(h:New W L l1 b w)(hb:Below w.heap.size w w')(hl:∀(j:Nat)(o:Oper)(Φ:Value->World->Prop),L[j]?=some (o,Kind.any Φ)->l2 j=true->l1 j=true):New W L l2 b w' :=
 ⟨h.1.step hb,fun j o Φ hj hl2=>hM j o Φ hj _ _ _ (h.2 j o Φ hj (hl j o Φ hj hl2)) hb⟩
theorem New.lay{W w w':World}{L:List (Oper × Kind)}{lst:Nat->Bool}{b:Nat->Value}(hM:∀(j:Nat)(o:Oper)(Φ:Value->World->Prop),L[j]?=some (o,Kind.any Φ)->Mon Φ)(h:New W L lst b w){i:Nat}{o:Oper}{Φ:Value->World->Prop}(hi:L[i]?=some (o,.any Φ)){v:Value}(hv:Φ v w')(hb:Below w.heap.size w w') :
  New W L (fun j=>j == i || lst j) (fun j=>if j=i then v else b j) w':=by
 refine⟨h.1.step hb,fun j o' Φ' hj hl=>?_⟩
 dsimp only
 by_cases hji:j=i
 ·subst hji
  rw[hi] at hj;cases hj
  rw[if_pos rfl]
  exact hv
 ·rw[if_neg hji]
  exact hM j o' Φ' hj _ _ _ (h.2 j o' Φ' hj (by simpa[hji] using hl)) hb
def frontW(md:Region.Mode)(l T:List Oper):Bool :=
 Region.noSelect l.toArray && downB md (l++T) && ((List.range T.length).all fun k=>match T[k]? with|some t=>((List.range l.length).all fun i=>waits md (l++T).toArray 6 t i) || ((List.range T.length).any fun j=>waits md (l++T).toArray 6 t (l.length+j))|none=>true) &&
 (List.range l.length).all fun i=>match l[i]? with
  | some o=>(List.range l.length).all fun j=>match l[j]? with
   | some y=>match y.dst with
    | some t=>(i == j || o.dst != some t) && (!(o.looksAt (l++T).toArray).contains t || (decide (j<i) && direct md o j))
    | none=>true
   | none=>true
  | none=>true
theorem left_eq{listed:Array Bool}{i:Nat}(h:listed.getD i true=false):left (listed.setIfInBounds i true)+1=left listed:=by
 have hi:i<listed.size:=by
  rcases A5n i listed.size with h'|h'
  ·exact h'
  ·simp[A4v h'] at h
 have hv:listed.toList[i]'(by simpa using hi)=false:=by
  simp only[Array.getD,hi,dif_pos] at h
  simpa using h
 unfold left
 rw[Array.toList_setIfInBounds,List.countP_set (by simpa using hi)]
 have hp:0<listed.toList.countP (!·):=List.countP_pos_iff.2 ⟨listed.toList[i]'(by simpa using hi),A5u _,by simp[hv]⟩
 rw[hv]
 simp only[Bool.not_false,Bool.not_true,if_true,Bool.false_eq_true,if_false]
 omega
theorem any_frontG{Q:Exit->Act->World->Prop}{l T:List Oper}{W:World}{a0:Act}{L:List (Oper × Kind)}(hB:frontW md l T=true)(hL:L.map (·.1)=l)
  (hstep:∀k x,L[k]?=some x->stepOK P md (l++T).toArray W x.1 (fun b=>actT (L.take k) 0 a0 b) (factsT (L.take k) 0 []) x.2)
  (hend:∀(fuel:Nat)(listed:Array Bool)(b:Nat->Value)(w:World),listed.size=(l++T).length->Closed md (l++T).toArray listed->(∀j,l.length<=j->j<(l++T).length->listed.getD j true=false)->left listed=fuel->New W L (fun _=>true) b w->(∀j,j<l.length->listed.getD j false=true)->wpAny P md (l++T).toArray Q fuel listed (actT L 0 a0 b) w) :
  ∀(fuel:Nat)(listed:Array Bool)(b:Nat->Value)(a:Act)(w:World),listed.size=(l++T).length->Closed md (l++T).toArray listed->(∀j,l.length<=j->j<(l++T).length->listed.getD j true=false)->left listed=fuel ->
   Sees L a0 (fun j=>listed.getD j false) b a->New W L (fun j=>listed.getD j false) b w->wpAny P md (l++T).toArray Q fuel listed a w:=by
 simp only[frontW,A3A] at hB
 obtain⟨⟨⟨hsel,hdn⟩,hT⟩,hall⟩:=hB
 have hLl:L.length=l.length:=by rw[<-hL];simp
 have hM:∀(j:Nat)(o:Oper)(Φ:Value->World->Prop),L[j]?=some (o,Kind.any Φ)->Mon Φ:=fun j o Φ hj=>(hstep j _ hj).1
 have hlo:∀{i:Nat}{x:Oper × Kind},L[i]?=some x->l[i]?=some x.1:=fun {i x} h=>by rw[<-hL];simp[h]
 have hpair:∀{i j:Nat}{x y:Oper × Kind}{t:Tmp},L[i]?=some x->L[j]?=some y->y.1.dst=some t ->
   ((i=j\/x.1.dst≠some t)/\(t∈x.1.looksAt (l++T).toArray->j<i/\direct md x.1 j=true)):=fun {i j x y t} hi hj hd=>by
  have hil:i<l.length:=by rw[<-hLl];exact(A3n.1 hi).1
  have hjl:j<l.length:=by rw[<-hLl];exact(A3n.1 hj).1
  have h1:=A3V.1 hall i (A4m.2 hil)
  simp only[hlo hi] at h1
  have h2:=A3V.1 h1 j (A4m.2 hjl)
  simp only[hlo hj,hd,A3A,A4S,beq_iff_eq,bne_iff_ne,A4F,decide_eq_true_eq] at h2
  refine⟨h2.1,fun ht=>h2.2.resolve_left ?_⟩
  simp[ht]
 have hA:Apart L:=fun j k x y t hj hk hx hy=>((hpair hj hk hy).1).resolve_right fun h=>h hx
 have hfin:∀(fuel:Nat)(listed:Array Bool)(b:Nat->Value)(a:Act)(w:World),listed.size=(l++T).length->Closed md (l++T).toArray listed->(∀j,l.length<=j->j<(l++T).length->listed.getD j true=false)->left listed=fuel ->
   Sees L a0 (fun j=>listed.getD j false) b a->New W L (fun j=>listed.getD j false) b w->(∀j,j<l.length->listed.getD j false=true)->wpAny P md (l++T).toArray Q fuel listed a w:=by
  intro fuel listed b a w hsz hcl hu hf hS hN hdone
  have ha:a=actT L 0 a0 b:=by
   have h2:=Sees.text hA a0 b L.length (A3t _)
   rw[A5P] at h2
   have ht:a.tmps=(actT L 0 a0 b).tmps:=A4N fun t=>hS.same h2 t fun j x hj _=>by
    have hjl:j<L.length:=(A3n.1 hj).1
    exact⟨hdone j E9,by simpa using hjl⟩
   have hd:a.defers=(actT L 0 a0 b).defers:=hS.1.trans h2.1.symm
   cases a
   cases h:actT L 0 a0 b
   rw[h] at ht hd
   simp only at ht hd
   rw[ht,hd]
  subst ha
  have hN':New W L (fun _=>true) b w:=hN.step hM (Below.refl _ _) fun j o Φ hj _=>hdone j C6
  exact hend fuel listed b w hsz hcl hu hf hN' hdone
 intro fuel
 induction fuel with
 | zero =>
  intro listed b a w hsz hcl hu hf hS hN
  refine hfin 0 listed b a w hsz hcl hu hf hS hN fun j hj=>?_
  cases hv:listed.getD j false with
  | true=>rfl
  | false =>
   rw[H8 C7 false true] at hv
   have:=A0f hv;omega
 | succ fuel ih =>
  intro listed b a w hsz hcl hu hf hS hN
  by_cases hdone:∀j,j<l.length->listed.getD j false=true
  ·exact hfin (fuel+1) listed b a w hsz hcl hu hf hS hN hdone
  ·simp only[Classical.not_forall] at hdone
   obtain⟨m,hm,hmu⟩:=hdone
   have hmu':listed.getD m false=false:=by simpa using hmu
   have hmt:listed.getD m true=false:=by rw[H8 C7 true false];exact hmu'
   refine⟨fun h0=>absurd h0 (Q1 hdn hsz m C8 hmt),fun i hi=>?_⟩
   obtain⟨hiu,oi,hoi,_⟩:=mem_ready.1 hi
   have hi':i<(l++T).length:=by simpa using (A3y.1 hoi).1
   have hil:i<l.length:=by
    rcases A5n i l.length with h'|h'
    ·exact h'
    ·have hoT:T[i - l.length]?=some oi:=by
      simp only[A3o] at hoi
      rwa [A3P h'] at hoi
     have hwt:=A3V.1 hT (i - l.length) (A4m.2 (A3n.1 hoT).1)
     simp only[hoT,A4S] at hwt
     rcases hwt with hwt|hwt
     rotate_left
     ·obtain⟨j,hj,hwj⟩:=A5H.1 hwt
      have hj2:=A4m.1 hj
      have h1:=P1 hcl hi hoi hwj
      have h2:=hu (l.length+j) (Nat.le_add_right _ _) C8
      rw[H8 C7 true false,h1] at h2
      cases h2
     have:=P1 hcl hi hoi (A3V.1 hwt m (A4m.2 hm))
     rw[hmu'] at this;cases this
   have hgx:L[i]?=some (L[i]'E9):=A3p E9
   generalize L[i]'E9=x at hgx
   have hox:oi=x.1:=by
    simp only[A3o] at hoi
    rw[A3E hil,hlo hgx] at hoi
    exact(Option.some.inj hoi).symm
   subst hox
   have hsel':∀cs b,x.1.op≠.select cs b:=fun cs b=>Region.noSelect_spec hsel i x.1 cs b (by simpa using hlo hgx)
   have htext:=Sees.text hA a0 b i E9
   have hiu':listed.getD i false=false:=by rw[H8 E9 false true];exact hiu
   -- the frame in the text's order looks the same to this operation
   have hsame:=A1X (ops:=(l++T).toArray) hsel' (a1:=a) (a2:=actT (L.take i) 0 a0 b) fun t ht=>hS.same htext t fun j y hj hd=>by
    have h1:=(hpair hgx hj hd).2 ht
    exact⟨O3 hi hoi h1.2,by simpa using h1.1⟩
   have hF:FactsAt md x.1 (factsT (L.take i) 0 []) b w:=fun f hf hd=>by
    rcases mem_factsT _ _ _ hf with h1|⟨k,o,hk,he⟩
    ·cases h1
    ·have hk':L[k]?=some (o,.any f.2):=by
      rw[A4f] at hk
      split at hk
      ·exact hk
      ·cases hk
     have:f.1=k:=by omega
     rw[this] at hd |-
     exact hN.2 k o _ hk' (O3 hi hoi hd)
   have hst:=hstep i x hgx
   have hset:∀j,j<L.length->(j == i || listed.getD j false)=(listed.setIfInBounds i true).getD j false:=fun j hj=>by
    by_cases hji:i=j
    ·subst hji
     simp[Array.getD,show i<listed.size by omega]
    ·rw[getD_set_ne false hji];simp[Ne.symm hji]
   have hu':∀j,l.length<=j->j<(l++T).length->(listed.setIfInBounds i true).getD j true=false:=fun j hj hj2=>by
    rw[getD_set_ne true E9];exact hu j hj hj2
   have hf':left (listed.setIfInBounds i true)=fuel:=by have:=left_eq hiu;omega
   have hgo:∀(b':Nat->Value)(w':World),Sees L a0 (fun j=>j == i || listed.getD j false) b' (a.put x.1.dst (x.2.val (b' i)))->New W L (fun j=>j == i || listed.getD j false) b' w' ->
     wpAny P md (l++T).toArray Q fuel (listed.setIfInBounds i true) (a.put x.1.dst (x.2.val (b' i))) w':=fun b' w' hS' hN' =>
    ih _ b' _ w' E2 (hcl.set hi) hu' hf' (hS'.congr hset (fun _ _ _=>rfl)) (hN'.step hM (Below.refl _ _) fun j o Φ hj hl=>by
     rw[hset j (A3n.1 hj).1];exact hl)
   obtain⟨o,κ⟩:=x
   unfold wpOp
   rw[hoi]
   simp only
   cases κ with
   | fix v =>
    have hkeep:∀w',Below w.heap.size w w'->New W L (fun j=>j == i || listed.getD j false) b w':=fun w' hb=>hN.step hM hb fun j o' Φ hj hl=>by
     by_cases hji:j=i
     ·subst hji;rw[hgx] at hj;cases hj
     ·simpa[hji] using hl
    have hS':=hS.put hA hgx
    rcases hst b w hN.1 hF with⟨hw,hq⟩|⟨hw,hv⟩
    ·rw[<-hsame.2] at hw
     rw[if_pos hw]
     refine .inl (wp_of_at (C:=Below w.heap.size w) (Below.refl _ _) (v:=v) ?_ fun w' hb=>hgo b w' hS' (hkeep w' hb))
     unfold Oper.quietAt at hq |-
     rw[hsame.1]
     exact hq
    ·rw[<-hsame.2] at hw
     rw[if_neg (by rw[hw];decide)]
     have h1:=hgo b w hS' (hkeep w (Below.refl _ _))
     simp only[Kind.val,hv] at h1
     exact h1
   | any Φ =>
    obtain⟨hMon,hst⟩:=hst
    obtain⟨hw,hr⟩:=hst b w hN.1 hF
    rw[<-hsame.2] at hw
    rw[if_pos hw]
    refine .inl (wp_of_yields (R:=fun v w''=>Φ v w''/\Below w.heap.size w w'') ?_ fun v w' hv=>?_)
    ·unfold yieldsAt at hr |-
     rw[hsame.1]
     exact hr
    ·have hN':=hN.lay hM hgx hv.1 hv.2
     have hS1:Sees L a0 (fun j=>listed.getD j false) (fun j=>if j=i then v else b j) a:=hS.congr (fun _ _=>rfl) fun j _ hl=>by
      rw[if_neg]
      intro e
      subst e
      rw[hiu'] at hl;cases hl
     have hS':=hS1.put hA hgx
     have h1:=hgo _ _ hS' hN'
     simpa[Kind.val] using h1
theorem any_front{Q:Exit->Act->World->Prop}{l T:List Oper}{W:World}{a0:Act}{L:List (Oper × Kind)}(hB:frontOK md l T=true)(hL:L.map (·.1)=l)
  (hstep:∀k x,L[k]?=some x->stepOK P md (l++T).toArray W x.1 (fun b=>actT (L.take k) 0 a0 b) (factsT (L.take k) 0 []) x.2)
  (hQ:∀b w',New W L (fun _=>true) b w'->wpList P (l++T).toArray Q T (actT L 0 a0 b) w') :
  ∀(fuel:Nat)(listed:Array Bool)(b:Nat->Value)(a:Act)(w:World),listed.size=(l++T).length->Closed md (l++T).toArray listed->(∀j,l.length<=j->j<(l++T).length->listed.getD j true=false)->left listed=fuel ->
   Sees L a0 (fun j=>listed.getD j false) b a->New W L (fun j=>listed.getD j false) b w->wpAny P md (l++T).toArray Q fuel listed a w:=by
 have hB2:=hB
 simp only[frontOK,A3A] at hB
 obtain⟨⟨⟨hsel,hdn⟩,hT⟩,hall⟩:=hB
 refine any_frontG (hB:=?_) hL hstep (fun fuel listed b w hsz hcl hu hf hN hdone=>any_tail hdn hT T 0 fuel listed _ w rfl hsz hcl (fun j hj=>hdone j E4) (fun j hj hj2=>hu j E4 hj2) (Nat.le_of_eq hf) (hQ b w hN))
 simp only[frontW,A3A]
 refine⟨⟨⟨hsel,hdn⟩,A3V.2 fun k hk=>?_⟩,hall⟩
 have h1:=A3V.1 hT k hk
 cases hTk:T[k]? with
 | none=>rfl
 | some t =>
  rw[hTk] at h1
  refine Bool.or_eq_true_iff.2 (.inl ?_)
  exact A3V.2 fun i hi=>A3V.1 h1 i (A4m.2 (by have:=A4m.1 hi;omega))
theorem region_val{id:Nat}{Q:Exit->Act->World->Prop}{a:Act}{w:World}(l T:List Oper)(hm:P.follows .mixedOrders=true)(hB:frontOK .any l T=true)
  (h:wpV P .any (l++T).toArray w (fun a' F=>∀b w',Cls w w'->(∀x∈F,x.2 (b x.1) w')->wpList P (l++T).toArray Q T (a' b) w') l 0 (fun _=>a) []) :
  (Code.region id (l++T).toArray true).wp P Q a w:=by
 obtain⟨L,hL,hstep,hQ⟩:=wpV_out l 0 _ [] h
 refine wp_region_any hm (any_front hB hL hstep (fun b w' hN=>hQ b w' hN.1 (fun x hx=>?_)) _ _ (fun _=>undef) a _ F0 (fun j o _ hl=>by simp only[Array.getD] at hl;split at hl<;>simp at hl) (fun j _ hj=>by simp only[A3k] at hj;simp[Array.getD];omega) ?_ ?_ ?_)
 ·rcases mem_factsT _ _ _ hx with h1|⟨k,o,hk,he⟩
  ·cases h1
  ·have:x.1=k:=by omega
   rw[this]
   exact hN.2 k o _ hk rfl
 ·unfold left
  simp[List.countP_replicate]
 ·refine(Sees.start L a (fun _=>undef)).congr (fun j _=>?_) (fun _ _ _=>rfl)
  simp only[Array.getD]
  split<;>simp
 ·refine⟨⟨rfl,rfl,rfl,A3t _,fun _ _=>rfl⟩,fun j o Φ hj hl=>?_⟩
  simp only[Array.getD] at hl
  split at hl<;>simp at hl
theorem region_val_lit{id:Nat}{Q:Exit->Act->World->Prop}{a:Act}{w:World}{l:List Oper}(n:Nat)(hm:P.follows .mixedOrders=true)(hB:frontOK .any (l.take n) (l.drop n)=true)
  (h:wpV P .any l.toArray w (fun a' F=>∀b w',Cls w w'->(∀x∈F,x.2 (b x.1) w')->wpList P l.toArray Q (l.drop n) (a' b) w') (l.take n) 0 (fun _=>a) []) :
  (Code.region id l.toArray true).wp P Q a w:=by
 have:=region_val (P:=P) (id:=id) (Q:=Q) (a:=a) (w:=w) (l.take n) (l.drop n) hm hB (by rwa [A3O])
 rwa [A3O] at this
variable{ops:Array Oper}{W:World}{Q:((Nat->Value)->Act)->List Fact->Prop}{o:Oper}{rest:List Oper}{i:Nat}{a:(Nat->Value)->Act}{F:List Fact}
theorem wpV_nil(h:Q a F):wpV P md ops W Q [] i a F:=h
theorem wpV_want(hw:∀b,Region.wanted o (yielded ops (a b).tmps)=true)
  (h:∀K:((Nat->Value)->Act)->List Fact->Prop,(∀a F,wpV P md ops W Q rest (i+1) a F->K a F)->∃v,(∀b w',Cls W w'->FactsAt md o F b w'->o.quietAt P (a b) (Below w'.heap.size w') w' v)/\K (fun b=>(a b).put o.dst v) F):wpV P md ops W Q (o::rest) i a F:=by
 obtain⟨v,h1,h2⟩:=h (fun a F=>wpV P md ops W Q rest (i+1) a F) (fun _ _ h=>h)
 exact⟨.fix v,fun b w' hw' hF=>.inl ⟨hw b,h1 b w' hw' hF⟩,h2⟩
theorem wpV_same(Φ:Value->World->Prop)(hM:Mon Φ)(hw:∀b,Region.wanted o (yielded ops (a b).tmps)=true)(hy:∀b w',Cls W w'->FactsAt md o F b w'->yieldsAt P o (a b) (fun v w''=>Φ v w''/\Below w'.heap.size w' w'') w')
  (h:wpV P md ops W Q rest (i+1) (fun b=>(a b).put o.dst (b i)) ((i,Φ)::F)):wpV P md ops W Q (o::rest) i a F :=
 ⟨.any Φ,⟨hM,fun b w' hw' hF=>⟨hw b,hy b w' hw' hF⟩⟩,h⟩
theorem yields_call{x:Operand}{xs:Array Operand}{ts:Array TypeId}{f:FuncId}{first caps:Array Value}{vs:List Value}{args:Array Value}{a:Act}{w:World}{R:Value->World->Prop}(hc:Calls P f args w (fun e w''=>∃v,e=.returned v/\R v w''))
  (hop:o.op=.call { callee:=.value x,args:=xs,argTypes:=ts }:=by rfl)(hx:evO a x=some (.func (.func f) first caps):=by rfl)(hxs:evs a xs.toList=some vs:=by rfl)(hA:(first.toList++vs++caps.toList).toArray=args:=by rfl)(hf:GoF P f:=by infer_instance):yieldsAt P o a R w:=by
 have hr:(execOp a.eval o).run P w=.ok (.enter f args) w:=by
  unfold execOp;rw[hop]
  have e1:xs.map a.eval=vs.toArray:=by
   have:=X8 hxs
   apply Array.ext'
   simp[this]
  have e2:first++xs.map a.eval++caps=args:=by
   rw[e1,<-hA]
   apply Array.ext'
   simp
  simp only[resolve,F4 hx,Deferred.ofValue,Sem.run_bind,Sem.run_pure,Result.andThen_ok,invoke,e2]
  exact A0S hf.is
 unfold yieldsAt
 rw[hr]
 exact hc
end
end MV
section
open Go.RowKit
section
variable{n:Nat}{P:Program}{ops:Array Oper}{Q:Exit->Act->World->Prop}{R:List Nat}{a:Act}{w:World}{o:Oper}
end
end
end Go.Proofs.YtlfbfbbdpcihfaaGreat
