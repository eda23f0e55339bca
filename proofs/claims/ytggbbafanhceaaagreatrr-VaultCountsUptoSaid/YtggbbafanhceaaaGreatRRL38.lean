/-
  Laws that the claims of this seat use, of several texts in one. No condition of their own.
-/
import Derived.Test.YtggbbafanhceaaaGreatRRL37
set_option maxRecDepth 100000
set_option maxHeartbeats 8000000
set_option linter.all false
namespace Go.Proofs.YtggbbafanhceaaaGreatRR
namespace MV
open Go.RowKit
section
variable{P:Program}{md:Region.Mode}{nn:Nat}
theorem wpIn_of_at{o:Oper}{a:Act}{v:Value}{K:Act→World→Prop}{Q:Exit→Act→World→Prop}{w:World}{C:World→Prop}(hC:C w)(h:o.quietAt P a C w v)(hK:∀w',C w'→K (a.put o.dst v) w')(hd:isDefer o=false):o.wpIn Fence.wide nn P a w K Q:=by
 unfold Oper.quietAt at h
 unfold Oper.wpIn
 refine⟨fun _ _=>trivial,?_⟩
 rw[Oper.semAt_plain _ _ _ (V1 hd)]
 generalize (execOp a.eval o).run P w=r at *
 cases r with
 | halt x w'=>exact h.elim
 | ok n w' =>
  cases n<;>simp only[Oper.quietUpon] at h<;>simp only[Oper.uponIn]
  case value u=>obtain⟨rfl,rfl⟩:=h;exact hK _ hC
  case skip=>obtain⟨rfl,rfl⟩:=h;exact hK _ hC
  case enter f args =>
   obtain⟨rfl,h⟩:=h
   exact⟨fun h=>(by cases h),(callsIn_wide.2 h).mono fun e w'' he=>by obtain⟨rfl,hw⟩:=he;exact hK _ hw⟩
theorem wpIn_of_yields{o:Oper}{a:Act}{K:Act→World→Prop}{Q:Exit→Act→World→Prop}{w:World}{R:Value→World→Prop}(h:yieldsAt P o a R w)(hK:∀v w',R v w'→K (a.put o.dst v) w')(hd:isDefer o=false):o.wpIn Fence.wide nn P a w K Q:=by
 unfold yieldsAt at h
 unfold Oper.wpIn
 refine⟨fun _ _=>trivial,?_⟩
 rw[Oper.semAt_plain _ _ _ (V1 hd)]
 generalize (execOp a.eval o).run P w=r at *
 cases r with
 | halt x w'=>exact h.elim
 | ok n w' =>
  cases n<;>simp only at h<;>simp only[Oper.uponIn]
  case value u=>exact hK _ _ h
  case skip=>exact hK _ _ h
  case enter f args=>exact⟨fun h=>(by cases h),(callsIn_wide.2 h).mono fun e w'' he=>by obtain⟨v,rfl,hR⟩:=he;exact hK _ _ hR⟩
theorem any_tailX{Q:Exit→Act→World→Prop}{l T:List Oper}(hdn:downB md (l++T)=true)(hT:tailOK md (l++T).toArray l.length T=true):∀(r:List Oper)(k fuel:Nat)(listed:Array Bool)(a:Act)(w:World),T.drop k=r→listed.size=(l++T).length→Closed md (l++T).toArray listed →
  (∀j,j<l.length+k→listed.getD j false=true)→(∀j,l.length+k≤j→j<(l++T).length→listed.getD j true=false)→left listed≤fuel→wpListIn Fence.wide nn P (l++T).toArray Q r a w→wpAnyIn Fence.wide nn P md (l++T).toArray Q fuel listed a w
 | [],k,fuel,listed,a,w,hr,hsz,hcl,hl,_,_,h=>by
  have hk:T.length≤k:=List.drop_eq_nil_iff.1 hr
  refine wpAnyIn_done ?_ h fuel
  rw[A5B]
  intro i hi
  obtain⟨h0,o,ho,_⟩:=mem_ready.1 hi
  have hi':i<(l++T).length:=by simpa using (A4H.1 ho).1
  have h1:=hl i (by simp only[A4p] at hi';omega)
  rw[K8 H6 true false,h1] at h0
  cases h0
 | o::r,k,fuel,listed,a,w,hr,hsz,hcl,hl,hu,hf,h=>by
  have hk:k<T.length:=by
   rcases A6t k T.length with h'|h'
   ·exact h'
   ·rw[A4F h'] at hr;cases hr
  have ho:T[k]?=some o:=by
   have:=congrArg (fun l=>l[0]?) hr
   simpa using this
  have hgo:(l++T).toArray[l.length+k]?=some o:=by
   simp only[A4w]
   rw[A4Q H6,A5g,ho]
  have hun:listed.getD (l.length+k) true=false:=hu _ (A4C _) G7
  cases fuel with
  | zero=>have:=A0U hun;omega
  | succ fuel =>
   refine⟨fun h0=>absurd h0 (T7 hdn hsz (l.length+k) G7 hun),fun i hi=>?_⟩
   have hik:i=l.length+k:=by
    obtain⟨h0,oi,hoi,_⟩:=mem_ready.1 hi
    have hi':i<(l++T).length:=by simpa using (A4H.1 hoi).1
    rcases Nat.lt_trichotomy i (l.length+k) with h'|h'|h'
    ·rw[K8 H6 true false,hl i h'] at h0;cases h0
    ·exact h'
    ·have hoT:T[i - l.length]?=some oi:=by
      simp only[A4w] at hoi
      rwa [A4Q H6] at hoi
     have:=T3 hcl hi hoi (W6 hT hoT (i:=l.length+k) H6)
     rw[K8 D2 false true,hun] at this
     cases this
   subst hik
   have hw:wpOpIn Fence.wide nn P (l++T).toArray Q (l.length+k) (wpListIn Fence.wide nn P (l++T).toArray Q r) a w:=by
    unfold wpOpIn
    rw[hgo]
    exact h
   have hd:T.drop (k+1)=r:=by
    have:=congrArg List.tail hr
    simpa using this
   refine wpOpIn_mono (fun a' w' h'=>any_tailX hdn hT r (k+1) fuel _ a' w' hd F9 (hcl.set hi) (fun j hj=>?_) (fun j hj hj2=>?_) (by have:=A0o hun;omega) h') hw
   ·by_cases hjk:l.length+k=j
    ·subst hjk
     have:l.length+k<listed.size:=by simp only[A4p] at hsz;omega
     simp[Array.getD,this]
    ·rw[getD_set_ne false hjk];exact hl j H6
   ·rw[getD_set_ne true H6];exact hu j H6 hj2
theorem any_frontX{Q:Exit→Act→World→Prop}{l T:List Oper}{W:World}{a0:Act}{L:List (Oper × Kind)}(hB:frontOK md l T=true)(hdf:∀o∈l,isDefer o=false)(hL:L.map (·.1)=l)
  (hstep:∀k x,L[k]?=some x→stepOK P md (l++T).toArray W x.1 (fun b=>actT (L.take k) 0 a0 b) (factsT (L.take k) 0 []) x.2)
  (hQ:∀b w',New W L (fun _=>true) b w'→wpListIn Fence.wide nn P (l++T).toArray Q T (actT L 0 a0 b) w') :
  ∀(fuel:Nat)(listed:Array Bool)(b:Nat→Value)(a:Act)(w:World),listed.size=(l++T).length→Closed md (l++T).toArray listed→(∀j,l.length≤j→j<(l++T).length→listed.getD j true=false)→left listed≤fuel →
   Sees L a0 (fun j=>listed.getD j false) b a→New W L (fun j=>listed.getD j false) b w→wpAnyIn Fence.wide nn P md (l++T).toArray Q fuel listed a w:=by
 simp only[frontOK,A4P] at hB
 obtain⟨⟨⟨hsel,hdn⟩,hT⟩,hall⟩:=hB
 have hLl:L.length=l.length:=by rw[←hL];simp
 have hM:∀(j:Nat)(o:Oper)(Φ:Value→World→Prop),L[j]?=some (o,Kind.any Φ)→Mon Φ:=fun j o Φ hj=>(hstep j _ hj).1
 have hlo:∀{i:Nat}{x:Oper × Kind},L[i]?=some x→l[i]?=some x.1:=fun {i x} h=>by rw[←hL];simp[h]
 have hpair:∀{i j:Nat}{x y:Oper × Kind}{t:Tmp},L[i]?=some x→L[j]?=some y→y.1.dst=some t →
   ((i=j∨x.1.dst≠some t)∧(t∈x.1.looksAt (l++T).toArray→j<i∧direct md x.1 j=true)):=fun {i j x y t} hi hj hd=>by
  have hil:i<l.length:=by rw[←hLl];exact(A4v.1 hi).1
  have hjl:j<l.length:=by rw[←hLl];exact(A4v.1 hj).1
  have h1:=A5p.1 hall i (A5K.2 hil)
  simp only[hlo hi] at h1
  have h2:=A5p.1 h1 j (A5K.2 hjl)
  simp only[hlo hj,hd,A4P,A6i,beq_iff_eq,bne_iff_ne,Bool.not_eq_true',decide_eq_true_eq] at h2
  refine⟨h2.1,fun ht=>h2.2.resolve_left ?_⟩
  simp[ht]
 have hA:Apart L:=fun j k x y t hj hk hx hy=>((hpair hj hk hy).1).resolve_right fun h=>h hx
 have hfin:∀(fuel:Nat)(listed:Array Bool)(b:Nat→Value)(a:Act)(w:World),listed.size=(l++T).length→Closed md (l++T).toArray listed→(∀j,l.length≤j→j<(l++T).length→listed.getD j true=false)→left listed≤fuel →
   Sees L a0 (fun j=>listed.getD j false) b a→New W L (fun j=>listed.getD j false) b w→(∀j,j<l.length→listed.getD j false=true)→wpAnyIn Fence.wide nn P md (l++T).toArray Q fuel listed a w:=by
  intro fuel listed b a w hsz hcl hu hf hS hN hdone
  have ha:a=actT L 0 a0 b:=by
   have h2:=Sees.text hA a0 b L.length (A4C _)
   rw[A6M] at h2
   have ht:a.tmps=(actT L 0 a0 b).tmps:=A5D fun t=>hS.same h2 t fun j x hj _=>by
    have hjl:j<L.length:=(A4v.1 hj).1
    exact⟨hdone j H6,by simpa using hjl⟩
   have hd:a.defers=(actT L 0 a0 b).defers:=hS.1.trans h2.1.symm
   cases a
   cases h:actT L 0 a0 b
   rw[h] at ht hd
   simp only at ht hd
   rw[ht,hd]
  subst ha
  have hN':New W L (fun _=>true) b w:=hN.step hM (Below.refl _ _) fun j o Φ hj _=>hdone j D0
  exact any_tailX hdn hT T 0 fuel listed _ w rfl hsz hcl (fun j hj=>hdone j G1) (fun j hj hj2=>hu j G1 hj2) hf (hQ b w hN')
 intro fuel
 induction fuel with
 | zero =>
  intro listed b a w hsz hcl hu hf hS hN
  refine hfin 0 listed b a w hsz hcl hu hf hS hN fun j hj=>?_
  cases hv:listed.getD j false with
  | true=>rfl
  | false =>
   rw[K8 D2 false true] at hv
   have:=A0U hv;omega
 | succ fuel ih =>
  intro listed b a w hsz hcl hu hf hS hN
  by_cases hdone:∀j,j<l.length→listed.getD j false=true
  ·exact hfin (fuel+1) listed b a w hsz hcl hu hf hS hN hdone
  ·simp only[Classical.not_forall] at hdone
   obtain⟨m,hm,hmu⟩:=hdone
   have hmu':listed.getD m false=false:=by simpa using hmu
   have hmt:listed.getD m true=false:=by rw[K8 D2 true false];exact hmu'
   refine⟨fun h0=>absurd h0 (T7 hdn hsz m (by simp only[A4p];omega) hmt),fun i hi=>?_⟩
   obtain⟨hiu,oi,hoi,_⟩:=mem_ready.1 hi
   have hi':i<(l++T).length:=by simpa using (A4H.1 hoi).1
   have hil:i<l.length:=by
    rcases A6t i l.length with h'|h'
    ·exact h'
    ·have hoT:T[i - l.length]?=some oi:=by
      simp only[A4w] at hoi
      rwa [A4Q h'] at hoi
     have:=T3 hcl hi hoi (W6 hT hoT (i:=m) H6)
     rw[hmu'] at this;cases this
   have hgx:L[i]?=some (L[i]'H6):=A4y H6
   generalize L[i]'H6=x at hgx
   have hox:oi=x.1:=by
    simp only[A4w] at hoi
    rw[A4M hil,hlo hgx] at hoi
    exact(Option.some.inj hoi).symm
   subst hox
   have hsel':∀cs b,x.1.op≠.select cs b:=fun cs b=>Region.noSelect_spec hsel i x.1 cs b (by simpa using hlo hgx)
   have htext:=Sees.text hA a0 b i H6
   have hiu':listed.getD i false=false:=by rw[K8 H6 false true];exact hiu
   -- the frame in the text's order looks the same to this operation
   have hsame:=A2L (ops:=(l++T).toArray) hsel' (a1:=a) (a2:=actT (L.take i) 0 a0 b) fun t ht=>hS.same htext t fun j y hj hd=>by
    have h1:=(hpair hgx hj hd).2 ht
    exact⟨Q4 hi hoi h1.2,by simpa using h1.1⟩
   have hF:FactsAt md x.1 (factsT (L.take i) 0 []) b w:=fun f hf hd=>by
    rcases mem_factsT _ _ _ hf with h1|⟨k,o,hk,he⟩
    ·cases h1
    ·have hk':L[k]?=some (o,.any f.2):=by
      rw[A5h] at hk
      split at hk
      ·exact hk
      ·cases hk
     have:f.1=k:=by omega
     rw[this] at hd ⊢
     exact hN.2 k o _ hk' (Q4 hi hoi hd)
   have hst:=hstep i x hgx
   have hset:∀j,j<L.length→(j == i || listed.getD j false)=(listed.setIfInBounds i true).getD j false:=fun j hj=>by
    by_cases hji:i=j
    ·subst hji
     simp[Array.getD,show i<listed.size by omega]
    ·rw[getD_set_ne false hji];simp[Ne.symm hji]
   have hu':∀j,l.length≤j→j<(l++T).length→(listed.setIfInBounds i true).getD j true=false:=fun j hj hj2=>by
    rw[getD_set_ne true H6];exact hu j hj hj2
   have hf':left (listed.setIfInBounds i true)≤fuel:=by have:=A0o hiu;omega
   have hgo:∀(b':Nat→Value)(w':World),Sees L a0 (fun j=>j == i || listed.getD j false) b' (a.put x.1.dst (x.2.val (b' i)))→New W L (fun j=>j == i || listed.getD j false) b' w' →
     wpAnyIn Fence.wide nn P md (l++T).toArray Q fuel (listed.setIfInBounds i true) (a.put x.1.dst (x.2.val (b' i))) w':=fun b' w' hS' hN' =>
    ih _ b' _ w' F9 (hcl.set hi) hu' hf' (hS'.congr hset (fun _ _ _=>rfl)) (hN'.step hM (Below.refl _ _) fun j o Φ hj hl=>by
     rw[hset j (A4v.1 hj).1];exact hl)
   obtain⟨o,κ⟩:=x
   unfold wpOpIn
   rw[hoi]
   simp only
   cases κ with
   | fix v =>
    have hkeep:∀w',Below w.heap.size w w'→New W L (fun j=>j == i || listed.getD j false) b w':=fun w' hb=>hN.step hM hb fun j o' Φ hj hl=>by
     by_cases hji:j=i
     ·subst hji;rw[hgx] at hj;cases hj
     ·simpa[hji] using hl
    have hS':=hS.put hA hgx
    rcases hst b w hN.1 hF with⟨hw,hq⟩|⟨hw,hv⟩
    ·rw[←hsame.2] at hw
     rw[if_pos hw]
     refine wpIn_of_at (C:=Below w.heap.size w) (Below.refl _ _) (v:=v) ?_ (fun w' hb=>hgo b w' hS' (hkeep w' hb)) (hdf _ (A5a (hlo hgx)))
     unfold Oper.quietAt at hq ⊢
     rw[hsame.1]
     exact hq
    ·rw[←hsame.2] at hw
     rw[if_neg (by rw[hw];decide)]
     have h1:=hgo b w hS' (hkeep w (Below.refl _ _))
     simp only[Kind.val,hv] at h1
     exact⟨fun _ _=>trivial,h1⟩
   | any Φ =>
    obtain⟨hMon,hst⟩:=hst
    obtain⟨hw,hr⟩:=hst b w hN.1 hF
    rw[←hsame.2] at hw
    rw[if_pos hw]
    refine wpIn_of_yields (R:=fun v w''=>Φ v w''∧Below w.heap.size w w'') ?_ (fun v w' hv=>?_) (hdf _ (A5a (hlo hgx)))
    ·unfold yieldsAt at hr ⊢
     rw[hsame.1]
     exact hr
    ·have hN':=hN.lay hM hgx hv.1 hv.2
     have hS1:Sees L a0 (fun j=>listed.getD j false) (fun j=>if j=i then v else b j) a:=hS.congr (fun _ _=>rfl) fun j _ hl=>by
      rw[if_neg]
      intro e
      subst e
      rw[hiu'] at hl;cases hl
     have hS':=hS1.put hA hgx
     have h1:=hgo _ _ hS' hN'
     simpa[Kind.val] using h1
theorem region_valX{id:Nat}{Q:Exit→Act→World→Prop}{a:Act}{w:World}(l T:List Oper)(hm:P.follows .mixedOrders=true)(hB:frontOK .any l T=true)(hdf:∀o∈l,isDefer o=false)
  (h:wpV P .any (l++T).toArray w (fun a' F=>∀b w',Cls w w'→(∀x∈F,x.2 (b x.1) w')→wpListIn Fence.wide nn P (l++T).toArray Q T (a' b) w') l 0 (fun _=>a) []) :
  (Code.region id (l++T).toArray true).wpIn Fence.wide nn P Q a w:=by
 obtain⟨L,hL,hstep,hQ⟩:=wpV_out l 0 _ [] h
 refine wpIn_region_any hm (any_frontX hB hdf hL hstep (fun b w' hN=>hQ b w' hN.1 (fun x hx=>?_)) _ _ (fun _=>undef) a _ H7 (fun j o _ hl=>by simp only[Array.getD] at hl;split at hl<;>simp at hl) (fun j _ hj=>by simp only[A4p] at hj;simp[Array.getD];omega) ?_ ?_ ?_)
 ·rcases mem_factsT _ _ _ hx with h1|⟨k,o,hk,he⟩
  ·cases h1
  ·have:x.1=k:=by omega
   rw[this]
   exact hN.2 k o _ hk rfl
 ·unfold left
  exact A4T A6r H7
 ·refine(Sees.start L a (fun _=>undef)).congr (fun j _=>?_) (fun _ _ _=>rfl)
  simp only[Array.getD]
  split<;>simp
 ·refine⟨⟨rfl,rfl,rfl,A4C _,fun _ _=>rfl⟩,fun j o Φ hj hl=>?_⟩
  simp only[Array.getD] at hl
  split at hl<;>simp at hl
theorem region_val_litX{id:Nat}{Q:Exit→Act→World→Prop}{a:Act}{w:World}{l:List Oper}(n:Nat)(hm:P.follows .mixedOrders=true)(hB:frontOK .any (l.take n) (l.drop n)=true)(hdf:((l.take n).all fun o => !isDefer o)=true)
  (h:wpV P .any l.toArray w (fun a' F=>∀b w',Cls w w'→(∀x∈F,x.2 (b x.1) w')→wpListIn Fence.wide nn P l.toArray Q (l.drop n) (a' b) w') (l.take n) 0 (fun _=>a) []) :
  (Code.region id l.toArray true).wpIn Fence.wide nn P Q a w:=by
 have:=region_valX (P:=P) (id:=id) (Q:=Q) (a:=a) (w:=w) (l.take n) (l.drop n) hm hB (fun o ho=>by have:=A5p.1 hdf o ho;simpa using this) (by rwa [A4L])
 rwa [A4L] at this
end
end MV
section
open Go.ChangeShapes Go.WideShapes Go.ChangeAt Go.RowKit
attribute [local irreducible] wpList wpListIn Oper.quietAt wpM
section
theorem yields_val{P:Program}{o:Oper}{a:Act}{w w':World}{v:Value}{R:Value→World→Prop}(hr:(execOp a.eval o).run P w=.ok (.value v) w')(h:R v w'):MV.yieldsAt P o a R w:=by
 unfold MV.yieldsAt
 rw[hr]
 exact h
theorem appendBig_four(x:Nat)(w0:World) :
  Calls Tryz.prog 146 #[.slice none 0 0,.int .i64 4,.int .u64 (x:Int)] w0 fun e w'=>∃v,e=.returned v∧BytesAt w' v (beB x 4)∧Below w0.heap.size w0 w':=by
 have hS:=St.start w0
 go_enter Tryz.func146,Tryz.ntmps146
 refine Zdsm ?_;intro _ _ _
 refine s_appendZ (n:=4) H9 own_st hS H8 H8 H8 H8 G2 G2 (by exact Tryz.underlying3) ⟨by omega,by omega⟩ ?_
 clear hS
 intro b c w h1 h2 hS
 refine I1 ?_
 have h2':=h2
 unfold maxLen at h2'
 refine Zdsm ?_;intro _ _
 have hX:ovw (bvs (zs c)) 0 (beB x 4)=bvs (beB x 4++zs (c - 4)):=by
  rw[O4,K9,A4Y,A4x]
  congr 2
  unfold zs;rw[A5A]
 refine A0L H9 own_st hS H8 H8 H8 H8 H8 G2 (X9 b 0 4 c _ 5 x _ (hS.blk 0 rfl) (by rw[I2,zs_len];omega) H6 H6) G0 hX B0 ?_
 clear hS
 intro w hS
 refine I1 ?_
 refine Zdsm ?_;show _
 go_ret
 exact⟨_,rfl,J7 (pre:=[]) (post:=(zs (c - 4)).map bv) (off:=0) (n:=4) (c:=c) (hS.blk 0 rfl) (by simp[bvs]) rfl (K9 _ _) h1,hS.below⟩
theorem yields_str{P:Program}{o:Oper}{a:Act}{w:World}{src dst e:TypeId}{x:Operand}{l:List UInt8}(hop:o.op=.convert src dst x)(hx:evO a x=some (.string ⟨l.toArray⟩))(hs:P.underlying src=some .string)(hd:P.underlying dst=some (.slice e))(he:P.underlying e=some (.int .u8)):MV.yieldsAt P o a (fun v w'=>BytesAt w' v l∧Below w.heap.size w w') w:=by
 have hr:=run_bytes_of_string (P:=P) w src dst e ⟨l.toArray⟩ hs hd he
 refine yields_val (w':=_) (v:=_) (by unfold execOp;rw[hop];simp only[I3 hx,Sem.run_bind,hr,Result.andThen_ok];rfl) ?_
 have hcap:=grownCap_ge w l.length 0 e
 have hsz:(⟨l.toArray⟩:ByteArray).size=l.length:=by simp[ByteArray.size]
 rw[hsz]
 generalize grownCap w l.length 0 e=c at hcap ⊢
 have hB:Below w.heap.size w w.drew:=⟨rfl,rfl,rfl,A4C _,fun _ _=>rfl⟩
 refine⟨O7 (cs:=bytesRow ⟨l.toArray⟩ c) (t:=e) (fr:=_) (by rw[A0I];exact if_pos rfl) rfl hcap fun i y hy=>?_,hB.trans ((Below.refl w.drew.heap.size w.drew).alloc (A4C _) _)⟩
 unfold bytesRow
 rw[A4D,Array.getElem?_append_left (by simp;exact(A4v.1 hy).1)]
 simp[hy,bv]
theorem A3N{P:Program}{o:Oper}{a:Act}{w:World}{t e size bytes len:Nat}{parts:Array (Nat × Operand)}{vs:List Value}(hop:o.op=.buildSlice t len parts)(hp:evi a 0 parts.toList=some vs)(hT:SlT P t e size bytes)(hl:parts.toList.length=len)(h1:∀v∈vs,v.cells.size=size)(hlen:len*size≤2 ^ 24)(hpos:0<len){R:Value→World→Prop}(hR:∀(b:Nat)(w':World),blk w' b=some (.cells (vs.flatMap fun v=>v.cells.toList).toArray e (0,0))→Below w.heap.size w w'→R (.slice (some ⟨b,0,none⟩) len len) w'):MV.yieldsAt P o a R w :=
 yields_val (A2a hop hp hT hl h1 rfl hlen hpos) (hR _ _ (by rw[A0I,if_pos rfl]) ((Below.refl _ _).alloc (A4C _) _))
def strT(lab:List UInt8):List UInt8:=beB 1 4++(lab++[0])
theorem stream_any(key lab:List UInt8)(hne:key≠[])(hk:key.length≤1000000)(kv:Value)(w0:World)(hkv:BytesAt w0 kv key) :
  Calls Tryz.prog 117 #[kv,.string ⟨lab.toArray⟩] w0 fun e w'=>∃b1 b2 g c sp,e=.returned (.func (.func 145) #[] #[.pointer (some ⟨b1,0,none⟩),.pointer (some ⟨b2,0,none⟩)])∧(w0.heap.size≤b1∧w0.heap.size≤b2∧w0.heap.size≤g)∧blk w' b1=some (.cells #[.slice (some ⟨g,0,none⟩) key.length c] 63 (0,0))∧blk w' b2=some (.cells #[.string ⟨lab.toArray⟩] 9 (0,0))∧key.length≤c∧blk w' g=some (.cells (key.map bv++sp).toArray 5 (0,0))∧Below w0.heap.size w0 w':=by
 have hS:=St.start w0
 have hcl:=fun w h=>clone_any kv key hne H6 w h
 go_enter Tryz.func117,Tryz.ntmps117
 refine Zdsm ?_;clear hS;intro _ b w hS _ _
 refine I9 H9 H8 H8 H8 H8 H8 G2 (hcl _ (hkv.below hS.below)) ?_
 rintro e w2 ⟨g,c,sp,rfl,⟨c1,c2⟩,c3,c4,hB⟩
 refine⟨_,rfl,?_⟩
 refine I1 ?_
 replace hS:=own_st.new hS hB c3 c4
 refine Zdsm ?_;clear hS;intro b w w hS
 go_ret
 exact⟨_,_,g,c,sp,rfl,⟨hS.low 0 rfl,hS.low 2 rfl,hS.low 1 rfl⟩,hS.blk 0 rfl,hS.blk 2 rfl,c1,hS.blk 1 rfl,hS.below⟩
def Three(l1 l2 l3:List UInt8)(v:Value)(w:World):Prop:=∃bq x y z,v=.slice (some ⟨bq,0,none⟩) 3 3∧blk w bq=some (.cells #[x,y,z] 63 (0,0))∧BytesAt w x l1∧BytesAt w y l2∧BytesAt w z l3
theorem mon_bytes(l:List UInt8):MV.Mon (fun v w=>BytesAt w v l):=fun _ _ _ h hb=>h.below hb
theorem mon_three(l1 l2 l3:List UInt8):MV.Mon (Three l1 l2 l3):=fun v w w' ⟨bq,x,y,z,h1,h2,h3,h4,h5⟩ hb=>⟨bq,x,y,z,h1,(hb.block bq (J5 h2)).trans h2,h3.below hb,h4.below hb,h5.below hb⟩
theorem Z7{w:World}{v:Value}{l:List UInt8}(h:BytesAt w v l):v.cells=#[v]:=by
 obtain⟨p,c,rfl,_⟩:=h;rfl
theorem tag_three(key:List UInt8)(hk:key.length≤1000000)(l1 l2 l3:List UInt8)(h1:l1≠[])(h2:l2≠[])(h3:l3≠[])(hl:l1.length+l2.length+l3.length≤100000)(kv v:Value)(w:World)(hkv:BytesAt w kv key)(hv:Three l1 l2 l3 v w) :
  Calls Tryz.prog 60 #[kv,v] w fun e w'=>e=.returned (.agg (bvs (tagL key (l1++(l2++l3)))))∧Below w.heap.size w w':=by
 obtain⟨bq,x,y,z,rfl,hb,a1,a2,a3⟩:=hv
 have htg:=A3c key hk kv [x,y,z] [l1,l2,l3] H7 G7 bq 0 3 _ _ _ w hkv (PartsAt.cons a1 h1 (PartsAt.cons a2 h2 (PartsAt.cons a3 h3 (PartsAt.nil _)))) hb (fun j v h=>by rw[A4D,A4w];exact h) H7
 rwa [show [l1,l2,l3].flatten=l1++(l2++l3) by simp] at htg
theorem one_built{o:Oper}{a:Act}{w:World}{t:TypeId}{parts:Array (Nat × Operand)}(hop:o.op=.buildSlice t 1 parts)(hp:evi a 0 parts.toList=some [.int .u8 0])(hl:parts.toList.length=1)(hT:SlT Tryz.prog t 5 1 1):MV.yieldsAt Tryz.prog o a (fun v w'=>BytesAt w' v [0]∧Below w.heap.size w w') w:=by
 refine A3N hop hp hT hl (fun v hv=>?_) H5 H5 fun b w' hb hB=>⟨J7 (l:=[0]) (pre:=[]) (post:=[]) (off:=0) hb H8 rfl rfl (A4C _),hB⟩
 simp only[A4O,A5b,or_false] at hv
 subst hv;rfl
theorem three_built{o:Oper}{a:Act}{w:World}{t:TypeId}{parts:Array (Nat × Operand)}{x y z:Value}{l1 l2 l3:List UInt8}(hop:o.op=.buildSlice t 3 parts)(hp:evi a 0 parts.toList=some [x,y,z])(hl:parts.toList.length=3)(hT:SlT Tryz.prog t 63 1 24)(h1:BytesAt w x l1)(h2:BytesAt w y l2)(h3:BytesAt w z l3):MV.yieldsAt Tryz.prog o a (fun v w'=>Three l1 l2 l3 v w'∧Below w.heap.size w w') w:=by
 refine A3N hop hp hT hl (fun v hv=>?_) H5 H5 fun b w' hb hB=>⟨⟨b,x,y,z,rfl,?_,h1.below hB,h2.below hB,h3.below hB⟩,hB⟩
 ·simp only[A4O,A5b,or_false] at hv
  rcases hv with rfl|rfl|rfl
  ·rw[Z7 h1];rfl
  ·rw[Z7 h2];rfl
  ·rw[Z7 h3];rfl
 ·rw[hb]
  simp[Z7 h1,Z7 h2,Z7 h3]
theorem stream1_iter(key lab:List UInt8)(hne:key≠[])(hk:key.length≤1000000)(hlab:lab≠[]∧lab.length≤1000)(b1 b2 g c:Nat)(sp:List Value)(hc:key.length≤c)(W0:World)(hb1:blk W0 b1=some (.cells #[.slice (some ⟨g,0,none⟩) key.length c] 63 (0,0)))(hb2:blk W0 b2=some (.cells #[.string ⟨lab.toArray⟩] 9 (0,0)))(hg:blk W0 g=some (.cells (key.map bv++sp).toArray 5 (0,0))) :
  IterAt Tryz.prog 145 #[.pointer (some ⟨b1,0,none⟩),.pointer (some ⟨b2,0,none⟩)] (fun k=>#[.agg (bvs (tagL key (beB (k+1) 4++(lab++[0]))))]) (some 4096) [b1,b2,g] W0:=by
 intro lb J Jx M W L0 hbW hR hM hJ0 hH' hY
 have hb1W:=(hbW.block b1 (J5 hb1)).trans hb1
 have hb2W:=(hbW.block b2 (J5 hb2)).trans hb2
 have hgW:=(hbW.block g (J5 hg)).trans hg
 have n1:b1∉L0.map (·.1):=hR b1 H7
 have n2:b2∉L0.map (·.1):=hR b2 H7
 have n3:g∉L0.map (·.1):=hR g H7
 clear hb1 hb2 hg hbW hR
 refine(callsIn_wide (n:=1)).1 ?_
 refine callsIn_of_wp Tryz.func145 rfl trivial ?_ rfl
 simp only[Tryz.ntmps145,A4V,A4G,A4W,Nat.reduceAdd,Nat.reduceSub,A5r,A5s,A5E,A5u,A4x,A4K]
 have hS:=St.start W
 refine ZdVm ?_;intro _
 gi_loopg [4] 4096 (fun r u4 wr=>∃k L,r+k=4096∧u4=.int .u32 ((k+1:Nat):Int)∧J k L∧Rd L0 W L wr)
 case atStart=>exact⟨0,L0,by omega,rfl,hJ0,.call hH' hS.below⟩
 case round =>
  obtain⟨k,L,hk2,rfl,hJ,hRd⟩:=hrel
  have hr1:=(hRd.farCells hb1W n1).1
  have hr2:=(hRd.farCells hb2W n2).1
  have hr3:=(hRd.farCells hgW n3).1
  replace hS:=St.start wr
  by_cases hlt:k<4096
  ·have hyk:=fun W=>hY k L W hJ
   dsimp only at hyk
   have hap:=fun w=>appendBig_four (k+1) w
   have h4:beB (k+1) 4≠[]:=by intro e;have:=congrArg List.length e;rw[K9] at this;cases this
   have l4:=K9 (k+1) 4
   obtain⟨l1,hl1⟩:∃l,beB (k+1) 4=l:=⟨_,rfl⟩
   rw[hl1] at hap h4 hyk l4
   have hkv:∀w,Below wr.heap.size wr w→BytesAt w (.slice (some ⟨g,0,none⟩) key.length c) key:=fun w hb=>J7 (pre:=[]) (post:=sp) (off:=0) ((hb.block g (J5 hr3)).trans hr3) H7 rfl rfl hc
   have htg:=fun w v hb hv=>tag_three key hk l1 lab [0] h4 hlab.1 H7 G7 (.slice (some ⟨g,0,none⟩) key.length c) v w (hkv w hb) hv
   obtain⟨G,hG⟩:∃x,tagL key (l1++(lab++[0]))=x:=⟨_,rfl⟩
   rw[hG] at htg hyk
   refine ZdVm ?_;intro _ _ _ _
   refine MV.region_val_litX 10 G8 G8 G8 ?_
   dsimp only[List.take,List.drop]
   iterate 10 (first|(refine MV.wpV_want (fun _=>rfl) (fun K hK=>?_);apply Exists.intro;refine⟨fun pB w' hw' hF=>?_,hK _ _ ?_⟩;(focus (have hZ:=(own_st).call hS hw';first|exact(K6 (htg _ _ hZ.below (MV.FactsAt.at 8 hF)))));clear hK K;refine Zo ?_)|refine ZV ?_|refine ZVs ?_|(refine MV.wpV_want (fun _=>rfl) (fun K hK=>?_);apply Exists.intro;refine⟨fun pB w' hw' hF=>?_,hK _ _ ?_⟩;(focus (have hZ:=(own_st).call hS hw';first|exact Q1 (by first|exact((hZ).far hr1).1)|exact Q1 (by first|exact((hZ).far hr2).1)|exact K7 own_st hZ|exact Q3 (by first|exact((hZ).far hr1).1)|exact Q3 (by first|exact((hZ).far hr2).1)));clear hK K;refine Zo ?_)|(refine MV.wpV_same ((fun v w=>BytesAt w v l1)) ((mon_bytes l1)) (fun _=>rfl) (fun bb w' hw' hF=>?_) ?_;(focus (have hZ:=(own_st).call hS hw';exact(MV.yields_call (hap _))));refine Zo ?_)|(refine MV.wpV_same ((fun v w=>BytesAt w v lab)) ((mon_bytes lab)) (fun _=>rfl) (fun bb w' hw' hF=>?_) ?_;(focus (have hZ:=(own_st).call hS hw';exact(yields_str H8 H8 Tryz.underlying9 Tryz.underlying63 Tryz.underlying5)));refine Zo ?_)|(refine MV.wpV_same ((fun v w=>BytesAt w v [0])) ((mon_bytes [0])) (fun _=>rfl) (fun bb w' hw' hF=>?_) ?_;(focus (have hZ:=(own_st).call hS hw';exact(one_built H8 H8 H8 G2)));refine Zo ?_)|(refine MV.wpV_same ((Three l1 lab [0])) ((mon_three l1 lab [0])) (fun _=>rfl) (fun bb w' hw' hF=>?_) ?_;(focus (have hZ:=(own_st).call hS hw';exact(three_built H8 H8 H8 G2 (MV.FactsAt.at (Φ:=fun v w=>BytesAt w v l1) 4 hF) (MV.FactsAt.at (Φ:=fun v w=>BytesAt w v lab) 6 hF) (MV.FactsAt.at (Φ:=fun v w=>BytesAt w v [0]) 7 hF))));refine Zo ?_))
   refine MV.wpV_nil ?_
   intro bb w hcq hfq
   replace hS:=(own_st).call hS hcq
   try dsimp only
   have hRd1:Rd L0 W L _:=hRd.trans (.call hRd.holds hS.below)
   (refine A2M H8 H8 H8 H8 H8 (by simpa using hyk _ hRd1 (fun n h=>by cases h;omega)) ?_)
   rintro e W3 ⟨L2,hRd2,(⟨rfl,hJ2⟩|⟨rfl,hx⟩)⟩
   ·refine⟨_,rfl,?_⟩
    refine I1 ?_
    have hRd3:=hRd1.trans hRd2
    replace hS:=St.start W3
    repeat' (first|refine ZaVm ?_|(refine ZkV ?_;clear hS;intro b w hS)|(refine ZtVm ?_;clear hS;intro w hS)|(refine Zcw ?_ ?_<;>intro hc)|((with_reducible refine cons_in ?_);first|(refine Stp.go I4 H8 H8 (r_add (k:=.u32) (q:=((k+1+1:Nat):Int)) H8 H8 H8 (fits_u32 H6) (by push_cast;rfl)) ?_;refine I1 ?_))|(refine Zi ?_;first|gi_step|refine Zq ?_)|fail)
    gi_roundg (gk - 1)
    case rel=>exact⟨k+1,L2,by omega,rfl,hJ2,hRd3.trans (.call hRd3.holds hS.below)⟩
    case measure=>omega
   ·refine⟨_,rfl,?_⟩
    refine I1 ?_
    have hRd3:=hRd1.trans hRd2
    replace hS:=St.start W3
    refine ZdVm ?_;intro _
    refine bodyPost_end (results_none rfl _ _ _) rfl ?_
    exact⟨⟨_,rfl⟩,L2,hRd3,.inr hx⟩
  ·obtain rfl:k=4096:=by omega
   refine ZdVm ?_;intro _ _
   refine bodyPost_end (results_none rfl _ _ _) rfl ?_
   exact⟨⟨_,rfl⟩,L,hRd.trans (.call hRd.holds hS.below),.inl ⟨_,rfl,hJ⟩⟩
end
section
theorem r_slice3B{P:Program}{o:Oper}{a:Act}{w:World}{t:TypeId}{x hi mx:Operand}{b off n c m n' c':Nat}{k2 k3:IntKind}{h u:Int}(hop:o.op=.slice t x none (some hi) (some mx))(hx:evO a x=some (.slice (some ⟨b,off,none⟩) n c))(hm:ElT P t m)(hh:evO a hi=some (.int k2 h))(hu:evO a mx=some (.int k3 u))
  (h0:0≤h∧h≤u∧u≤(c:Int)∧0<u)(hn:h.toNat=n')(hc:u.toNat=c'):(execOp a.eval o).run P w=.ok (.value (.slice (some ⟨b,off,none⟩) n' c')) w:=by
 obtain⟨e,hu2,hs⟩:=elT_iff hm.is
 unfold execOp;rw[hop]
 have b1:=S9 (P:=P) (w:=w) (k:=k3) (i:=u) (y:=c) (c:=.slice3Acap) H6
 have b2:=S9 (P:=P) (w:=w) (k:=k2) (i:=h) (y:=u.toNat) (c:=.slice3B) H6
 have hne:¬u.toNat=0:=by omega
 subst hn hc
 simp only[A5J,Option.map_none,I3 hx,I3 hh,I3 hu,Instr.sliceAt,Instr.slice,Instr.sliceBounds,Sem.run_bind,run_underlying hu2,Result.andThen_ok,if_true,Option.isSome_some,b1,b2,N4 hs,Sem.run_pure]
 simp[U0,hne]
theorem clip_any(g n c:Nat)(hnc:n≤c∧0<n)(w0:World):Calls Tryz.prog 118 #[.slice (some ⟨g,0,none⟩) n c] w0 fun e w'=>e=.returned (.slice (some ⟨g,0,none⟩) n n)∧Below w0.heap.size w0 w':=by
 have hS:=St.start w0
 obtain⟨hn1,hn2⟩:=hnc
 go_enter Tryz.func118,Tryz.ntmps118
 repeat' (first|refine Zasm ?_|(refine Zks ?_;clear hS;intro b w hS)|(refine Ztsm ?_;clear hS;intro w hS)|(refine Zc ?_ ?_<;>intro hc)|((with_reducible refine cons_list ?_);first|(refine Stp.go H9 H8 H8 (r_slice3B (n':=n) (c':=n) H8 H8 G2 H8 H8 H6 H6 H6) ?_;refine I1 ?_))|(refine Zg ?_;first|go_step|go_step3|refine Zr ?_)|fail)
 go_ret
 exact⟨rfl,hS.below⟩
attribute [local irreducible] tagL
theorem derive_any(key lab:List UInt8)(hne:key≠[])(hk:key.length≤1000000)(hlab:lab≠[]∧lab.length≤1000)(kv:Value)(w0:World)(hkv:BytesAt w0 kv key) :
  Calls Tryz.prog 70 #[kv,.string ⟨lab.toArray⟩,.int .i64 32] w0 fun e w'=>∃g sp,e=.returned (.slice (some ⟨g,0,none⟩) 32 32)∧w0.heap.size≤g∧blk w' g=some (.cells ((tagL key (strT lab)).map bv++sp).toArray 5 (0,0))∧Below w0.heap.size w0 w':=by
 have hS:=St.start w0
 have hst:=fun w h=>stream_any key lab hne hk kv w h
 have hit:=fun b1 b2 g c sp hc W0 h1 h2 h3=>stream1_iter key lab hne hk hlab b1 b2 g c sp hc W0 h1 h2 h3
 refine R3 Tryz.func70 rfl ?_
 simp only[Tryz.ntmps70,A4V,A4G,A4W,Nat.reduceAdd,Nat.reduceSub,A5r,A5s,A5E,A5u,A4x,A4K]
 refine Zdsm ?_;clear hS;intro _ b w b w b w w hS _ _ _ _
 refine I9 H9 H8 H8 H8 H8 H8 G2 (hst _ (hkv.below hS.below)) ?_
 rintro e w2 ⟨b1,b2,g,c,sp,rfl,⟨p1,p2,p3⟩,q1,q2,hc,q3,hB⟩
 refine⟨_,rfl,?_⟩
 refine I1 ?_
 rename_i bn z1 bo z2 z3 KA hKA KB hKB
 obtain⟨L0,hL0⟩:∃L:List Blk,[(b,(#[.slice (some ⟨bo,0,none⟩) 0 64]:Array Value),63),(bo,bvs (zs 64),5),(bn,#[.int .i64 32],3)]=L:=⟨_,rfl⟩
 rw[hL0] at hS
 have hlow:∀x∈L0.map (·.1),x<w.heap.size:=fun x hx=>own_st.lt hS hx
 replace hS:=own_st.call hS hB
 have hgl:∀k,(tagL key (beB (k+1) 4++(lab++[0]))).length=32:=fun k=>O5 _ _
 have hT0:tagL key (strT lab)=tagL key (beB (0+1) 4++(lab++[0])):=rfl
 repeat' (first|refine Zasm ?_|(refine Zks ?_;clear hS;intro b w hS)|(refine Ztsm ?_;clear hS;intro w hS)|(refine Zc ?_ ?_<;>intro hc)|(refine Zg ?_;first|go_step|go_step3|refine Zr ?_)|fail)
 refine A0G (els:=fun k=>#[.agg (bvs (tagL key (beB (k+1) 4++(lab++[0]))))]) (N:=some 4096) (R:=[b1,b2,g]) (gf:=145) (lb:=#[.pointer (some ⟨b1,0,none⟩),.pointer (some ⟨b2,0,none⟩)]) H8 F2 (hit b1 b2 g c sp hc w2 q1 q2 q3) (Below.refl _ _) (fun _=>rfl)
  (fun k L=>k=0∧L=L0) (fun c' L=>c'=.exit 0∧L=[(b,#[.slice (some ⟨bo,0,none⟩) 32 64],63),(bo,((tagL key (strT lab)).map bv++(zs 32).map bv).toArray,5),(bn,#[.int .i64 32],3)]) 0 (fun h=>by cases h) L0 ⟨rfl,rfl⟩ hS.holds ?R0 (fun k=>bvs (tagL key (beB (k+1) 4++(lab++[0])))) 45
  (fun k x=>{ tmps:=#[kv,.string ⟨lab.toArray⟩,.int .i64 32,undef,undef,.pointer (some ⟨bn,0,none⟩),.slice none 0 0,.pointer (some ⟨b,0,none⟩),.pointer (some ⟨x,0,none⟩),.int .i64 32,.bool false,.bool false,.int .i64 32,.bool false,.bool false,.int .i64 32,.int .i64 64,.slice (some ⟨bo,0,none⟩) 0 64,kv,.string ⟨lab.toArray⟩,.func (.func 145) #[] #[.pointer (some ⟨b1,0,none⟩),.pointer (some ⟨b2,0,none⟩)],.agg (bvs (tagL key (beB (k+1) 4++(lab++[0])))),undef,undef,undef,undef,undef,undef,undef,undef,undef,undef,undef],defers:=[] }) ?assign ?body ?done ?stop
 case R0 =>
  intro x hx
  simp only[A4O,A5b,or_false] at hx
  rcases hx with rfl|rfl|rfl
  ·exact⟨J5 q1,fun h=>absurd (hlow _ h) H6⟩
  ·exact⟨J5 q2,fun h=>absurd (hlow _ h) H6⟩
  ·exact⟨J5 q3,fun h=>absurd (hlow _ h) H6⟩
 case assign =>
  rintro l0 k L W ⟨rfl,rfl⟩ hIn K hK
  have hSL:=hS
  have hS:=hIn.round
  have hgl:=hgl 0
  obtain⟨G,hG⟩:∃x,tagL key (beB (0+1) 4++(lab++[0]))=x:=⟨_,rfl⟩
  rw[hG] at hgl hK ⊢
  have sG:csz (bvs G)=32:=by rw[I2,hgl]
  have sZ:csz (bvs (zs 32))=32:=by rw[I2,zs_len]
  simp only[A6N,A6F,A6G,A6C,A6H,List.foldl_nil,A4q,A4r,A4s]
  repeat' (first|refine Zaim ?_|(refine Zki ?_;clear hS;intro b w hS)|(refine Ztim ?_;clear hS;intro w hS)|(refine Zci ?_ ?_<;>intro hc)|(refine Zi ?_;first|gi_step|refine Zq ?_)|fail)
  exact hS
 case body =>
  rintro l0 k L bx W ⟨rfl,rfl⟩ hIn hN
  subst hL0
  have hSL:=hS.range hIn
  replace hS:=hIn.round
  have hgl:=hgl 0
  rw[hT0]
  obtain⟨G,hG⟩:∃x,tagL key (beB (0+1) 4++(lab++[0]))=x:=⟨_,rfl⟩
  rw[hG] at hgl hS hSL ⊢
  refine Zdi ?_;intro _ _ _
  refine L9 2 G8 G8 G8 ?_
  dsimp only[List.take,List.drop]
  iterate 2 (first|refine ZQ ?_|refine ZQi ?_|refine ZQa ?_)
  refine Zn own_in hS ?_
  clear hS
  intro pB w hS
  try dsimp only
  refine s_appendR (i:=2) (olds:=[]) (spare:=(zs 64).map bv) (xs:=G.map bv) (nm:=32) K4 own_in hS H8 H8 H8 H8 G2 H8 (by simp[bvs]) H8 (by rw[A4z,zs_len]) (Z3 (own_in.blk 0 hS rfl) (fun j v h=>by rw[A4D];exact h)) (by rw[A4z,hgl]) (A1V G) H6 H8 ?_
  clear hS
  intro w hS
  have e1:([]++G.map bv++((zs 64).map bv).drop (G.map bv).length)=G.map bv++(zs 32).map bv:=by rw[A4x,A4z,hgl,←A6m];unfold zs;rw[A5A]
  rw[e1] at hS
  simp only[A4r,A4s] at hS
  refine I1 ?_
  refine Zdi ?_;clear hS;intro w hS
  exact⟨_,hS.tail,rfl,rfl⟩
 case stop =>
  rintro D c' L W ⟨rfl,rfl⟩ hIn hD hD0
  have hDw:w0.heap.size≤D:=A4T hS.below.size hD0
  replace hS:StD w0 D W _:=⟨hS.range hIn,hD⟩
  clear hIn hit
  have hcp:=fun w=>clip_any bo 32 64 ⟨by omega,by omega⟩ w
  repeat' (first|refine ZaDm ?_|(refine ZkD ?_;clear hS;intro b w hS)|(refine ZtDm ?_;clear hS;intro w hS)|(refine Zc ?_ ?_<;>intro hc)|((with_reducible refine cons_list ?_);first|(refine J0 H9 own_stD hS (hcp _) ?_;clear hS;intro w hS;refine I1 ?_))|(refine Zg ?_;first|go_step|go_step3|refine Zr ?_)|fail)
  refine postMR (.inl rfl) rfl hS.2 ?_
  have hS3:=hS.shut hDw
  go_ret
  exact⟨bo,_,rfl,hS3.low 1 rfl,hS3.blk 1 rfl,hS3.below⟩
 case done =>
  rintro D N1 L W hm' ⟨h0,rfl⟩ hIn hD hD0
  cases hm'
  cases h0
end
section
attribute [local irreducible] shaL
def secH(key:List UInt8):List UInt8:=tagL key (strT [104,101,97,100])
def secL(key:List UInt8):List UInt8:=tagL key (strT [108,111,103])
def secW(key:List UInt8):List UInt8:=tagL key (strT [119,114,97,112])
section
variable{B:Nat}{H:World→List Blk→Prop}{w0:World}{L:List Blk}
end
end
section
attribute [local irreducible] shaL
theorem rstart_1(n:Nat)(hn:n≤1000000000)(w0:World):Calls Tryz.prog 76 #[.int .i64 (n:Int),.int .i64 (n:Int),.int .i64 (-1)] w0 fun e w'=>e=.returned (.int .i64 1)∧Below w0.heap.size w0 w':=by
 have hS:=St.start w0
 have h1:¬(n:Int)<0:=by omega
 have h2:¬(n:Int)>4611686018427387904:=by omega
 have h3:¬(-1:Int)=(n:Int)+1:=by omega
 have h4:¬(-1:Int)=(n:Int):=by omega
 go_enter Tryz.func76,Tryz.ntmps76
 repeat' (first|refine Zasm ?_|(refine Zks ?_;clear hS;intro b w hS)|(refine Ztsm ?_;clear hS;intro w hS)|(refine Zc ?_ ?_<;>intro hc)|(refine Zg ?_;first|go_step|go_step3|refine Zr ?_)|fail)
 all_goals first|(exfalso;omega)|skip
 go_ret
 exact⟨rfl,hS.below⟩
theorem rstart_2(n:Nat)(hn:n≤1000000000)(w0:World):Calls Tryz.prog 76 #[.int .i64 (n:Int),.int .i64 (n:Int),.int .i64 (n:Int)] w0 fun e w'=>e=.returned (.int .i64 2)∧Below w0.heap.size w0 w':=by
 have hS:=St.start w0
 have h1:¬(n:Int)<0:=by omega
 have h2:¬(n:Int)>4611686018427387904:=by omega
 have h3:¬(n:Int)=(n:Int)+1:=by omega
 go_enter Tryz.func76,Tryz.ntmps76
 repeat' (first|refine Zasm ?_|(refine Zks ?_;clear hS;intro b w hS)|(refine Ztsm ?_;clear hS;intro w hS)|(refine Zc ?_ ?_<;>intro hc)|(refine Zg ?_;first|go_step|go_step3|refine Zr ?_)|fail)
 all_goals first|(exfalso;omega)|skip
 go_ret
 exact⟨rfl,hS.below⟩
theorem rstart_4(w0:World):Calls Tryz.prog 76 #[.int .i64 0,.int .i64 (-1),.int .i64 (-1)] w0 fun e w'=>e=.returned (.int .i64 4)∧Below w0.heap.size w0 w':=by
 have hS:=St.start w0
 go_enter Tryz.func76,Tryz.ntmps76
 repeat' (first|refine Zasm ?_|(refine Zks ?_;clear hS;intro b w hS)|(refine Ztsm ?_;clear hS;intro w hS)|(refine Zc ?_ ?_<;>intro hc)|(refine Zg ?_;first|go_step|go_step3|refine Zr ?_)|fail)
 all_goals first|(exfalso;omega)|skip
 go_ret
 exact⟨rfl,hS.below⟩
end
end
end Go.Proofs.YtggbbafanhceaaaGreatRR
