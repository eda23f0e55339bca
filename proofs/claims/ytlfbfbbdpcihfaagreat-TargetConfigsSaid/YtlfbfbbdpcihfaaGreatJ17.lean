/- Laws that the claim uses. No condition of their own. -/
import Derived.Test.YtlfbfbbdpcihfaaGreatJ15
import Derived.Test.YtlfbfbbdpcihfaaGreatJ16
set_option maxRecDepth 100000
set_option maxHeartbeats 8000000
set_option linter.all false
namespace Go.Proofs.YtlfbfbbdpcihfaaGreat
namespace MV
open Go.RowKit
section
variable{P:Program}{md:Region.Mode}{nn:Nat}
theorem wpIn_of_at{o:Oper}{a:Act}{v:Value}{K:Act->World->Prop}{Q:Exit->Act->World->Prop}{w:World}{C:World->Prop}(hC:C w)(h:o.quietAt P a C w v)(hK:∀w',C w'->K (a.put o.dst v) w')(hd:isDefer o=false):o.wpIn Fence.wide nn P a w K Q:=by
 unfold Oper.quietAt at h
 unfold Oper.wpIn
 refine⟨fun _ _=>trivial,?_⟩
 rw[Oper.semAt_plain _ _ _ (S4 hd)]
 generalize (execOp a.eval o).run P w=r at *
 cases r with
 | halt x w'=>exact h.elim
 | ok n w' =>
  cases n<;>simp only[Oper.quietUpon] at h<;>simp only[Oper.uponIn]
  case value u=>obtain⟨rfl,rfl⟩:=h;exact hK _ hC
  case skip=>obtain⟨rfl,rfl⟩:=h;exact hK _ hC
  case enter f args =>
   obtain⟨rfl,h⟩:=h
   exact⟨fun h=>(by cases h),(callsIn_wide.2 h).mono fun e w'' he=>by obtain⟨rfl,hw⟩:=he;exact hK _ hw⟩
theorem wpIn_of_yields{o:Oper}{a:Act}{K:Act->World->Prop}{Q:Exit->Act->World->Prop}{w:World}{R:Value->World->Prop}(h:yieldsAt P o a R w)(hK:∀v w',R v w'->K (a.put o.dst v) w')(hd:isDefer o=false):o.wpIn Fence.wide nn P a w K Q:=by
 unfold yieldsAt at h
 unfold Oper.wpIn
 refine⟨fun _ _=>trivial,?_⟩
 rw[Oper.semAt_plain _ _ _ (S4 hd)]
 generalize (execOp a.eval o).run P w=r at *
 cases r with
 | halt x w'=>exact h.elim
 | ok n w' =>
  cases n<;>simp only at h<;>simp only[Oper.uponIn]
  case value u=>exact hK _ _ h
  case skip=>exact hK _ _ h
  case enter f args=>exact⟨fun h=>(by cases h),(callsIn_wide.2 h).mono fun e w'' he=>by obtain⟨v,rfl,hR⟩:=he;exact hK _ _ hR⟩
theorem any_tailX{Q:Exit->Act->World->Prop}{l T:List Oper}(hdn:downB md (l++T)=true)(hT:tailOK md (l++T).toArray l.length T=true):∀(r:List Oper)(k fuel:Nat)(listed:Array Bool)(a:Act)(w:World),T.drop k=r->listed.size=(l++T).length->Closed md (l++T).toArray listed ->
  (∀j,j<l.length+k->listed.getD j false=true)->(∀j,l.length+k<=j->j<(l++T).length->listed.getD j true=false)->left listed<=fuel->wpListIn Fence.wide nn P (l++T).toArray Q r a w->wpAnyIn Fence.wide nn P md (l++T).toArray Q fuel listed a w
 | [],k,fuel,listed,a,w,hr,hsz,hcl,hl,_,_,h=>by
  have hk:T.length<=k:=List.drop_eq_nil_iff.1 hr
  refine wpAnyIn_done ?_ h fuel
  rw[A4s]
  intro i hi
  obtain⟨h0,o,ho,_⟩:=mem_ready.1 hi
  have hi':i<(l++T).length:=by simpa using (A3y.1 ho).1
  have h1:=hl i (by simp only[A3k] at hi';omega)
  rw[H8 E9 true false,h1] at h0
  cases h0
 | o::r,k,fuel,listed,a,w,hr,hsz,hcl,hl,hu,hf,h=>by
  have hk:k<T.length:=by
   rcases A5n k T.length with h'|h'
   ·exact h'
   ·rw[A3M h'] at hr;cases hr
  have ho:T[k]?=some o:=by
   have:=congrArg (fun l=>l[0]?) hr
   simpa using this
  have hgo:(l++T).toArray[l.length+k]?=some o:=by
   simp only[A3o]
   rw[A3P E9,A4e,ho]
  have hun:listed.getD (l.length+k) true=false:=hu _ (A3t _) E6
  cases fuel with
  | zero=>have:=A0f hun;omega
  | succ fuel =>
   refine⟨fun h0=>absurd h0 (Q1 hdn hsz (l.length+k) E6 hun),fun i hi=>?_⟩
   have hik:i=l.length+k:=by
    obtain⟨h0,oi,hoi,_⟩:=mem_ready.1 hi
    have hi':i<(l++T).length:=by simpa using (A3y.1 hoi).1
    rcases Nat.lt_trichotomy i (l.length+k) with h'|h'|h'
    ·rw[H8 E9 true false,hl i h'] at h0;cases h0
    ·exact h'
    ·have hoT:T[i - l.length]?=some oi:=by
      simp only[A3o] at hoi
      rwa [A3P E9] at hoi
     have:=P1 hcl hi hoi (T9 hT hoT (i:=l.length+k) E9)
     rw[H8 C7 false true,hun] at this
     cases this
   subst hik
   have hw:wpOpIn Fence.wide nn P (l++T).toArray Q (l.length+k) (wpListIn Fence.wide nn P (l++T).toArray Q r) a w:=by
    unfold wpOpIn
    rw[hgo]
    exact h
   have hd:T.drop (k+1)=r:=by
    have:=congrArg List.tail hr
    simpa using this
   refine wpOpIn_mono (fun a' w' h'=>any_tailX hdn hT r (k+1) fuel _ a' w' hd E2 (hcl.set hi) (fun j hj=>?_) (fun j hj hj2=>?_) (by have:=A0c hun;omega) h') hw
   ·by_cases hjk:l.length+k=j
    ·subst hjk
     have:l.length+k<listed.size:=by simp only[A3k] at hsz;omega
     simp[Array.getD,this]
    ·rw[getD_set_ne false hjk];exact hl j E9
   ·rw[getD_set_ne true E9];exact hu j E9 hj2
theorem any_frontX{Q:Exit->Act->World->Prop}{l T:List Oper}{W:World}{a0:Act}{L:List (Oper × Kind)}(hB:frontOK md l T=true)(hdf:∀o∈l,isDefer o=false)(hL:L.map (·.1)=l)
  (hstep:∀k x,L[k]?=some x->stepOK P md (l++T).toArray W x.1 (fun b=>actT (L.take k) 0 a0 b) (factsT (L.take k) 0 []) x.2)
  (hQ:∀b w',New W L (fun _=>true) b w'->wpListIn Fence.wide nn P (l++T).toArray Q T (actT L 0 a0 b) w') :
  ∀(fuel:Nat)(listed:Array Bool)(b:Nat->Value)(a:Act)(w:World),listed.size=(l++T).length->Closed md (l++T).toArray listed->(∀j,l.length<=j->j<(l++T).length->listed.getD j true=false)->left listed<=fuel ->
   Sees L a0 (fun j=>listed.getD j false) b a->New W L (fun j=>listed.getD j false) b w->wpAnyIn Fence.wide nn P md (l++T).toArray Q fuel listed a w:=by
 simp only[frontOK,A3A] at hB
 obtain⟨⟨⟨hsel,hdn⟩,hT⟩,hall⟩:=hB
 have hLl:L.length=l.length:=by rw[<-hL];simp
 have hM:∀(j:Nat)(o:Oper)(Φ:Value->World->Prop),L[j]?=some (o,Kind.any Φ)->Mon Φ:=fun j o Φ hj=>(hstep j _ hj).1
 have hlo:∀{i:Nat}{x:Oper × Kind},L[i]?=some x->l[i]?=some x.1:=fun {i x} h=>by rw[<-hL];simp[h]
 have hpair:∀{i j:Nat}{x y:Oper × Kind}{t:Tmp},L[i]?=some x->L[j]?=some y->y.1.dst=some t ->
   ((i=j\/x.1.dst≠some t)/\(t∈x.1.looksAt (l++T).toArray->j<i/\direct md x.1 j=true)):=fun {i j x y t} hi hj hd=>by
  have hil:i<l.length:=by rw[<-hLl];exact(A3n.1 hi).1
  have hjl:j<l.length:=by rw[<-hLl];exact(A3n.1 hj).1
  have h1:=A3V.1 hall i (A4m.2 hil)
  simp only[hlo hi] at h1
  have h2:=A3V.1 h1 j (A4m.2 hjl)
  simp only[hlo hj,hd,A3A,A4S,beq_iff_eq,bne_iff_ne,A4F,decide_eq_true_eq] at h2
  refine⟨h2.1,fun ht=>h2.2.resolve_left ?_⟩
  simp[ht]
 have hA:Apart L:=fun j k x y t hj hk hx hy=>((hpair hj hk hy).1).resolve_right fun h=>h hx
 have hfin:∀(fuel:Nat)(listed:Array Bool)(b:Nat->Value)(a:Act)(w:World),listed.size=(l++T).length->Closed md (l++T).toArray listed->(∀j,l.length<=j->j<(l++T).length->listed.getD j true=false)->left listed<=fuel ->
   Sees L a0 (fun j=>listed.getD j false) b a->New W L (fun j=>listed.getD j false) b w->(∀j,j<l.length->listed.getD j false=true)->wpAnyIn Fence.wide nn P md (l++T).toArray Q fuel listed a w:=by
  intro fuel listed b a w hsz hcl hu hf hS hN hdone
  have ha:a=actT L 0 a0 b:=by
   have h2:=Sees.text hA a0 b L.length (A3t _)
   rw[A5P] at h2
   have ht:a.tmps=(actT L 0 a0 b).tmps:=A4N fun t=>hS.same h2 t fun j x hj _=>by
    have hjl:j<L.length:=(A3n.1 hj).1
    exact⟨hdone j E9,by simpa using hjl⟩
   have hd:a.defers=(actT L 0 a0 b).defers:=hS.1.trans h2.1.symm
   cases a
   cases h:actT L 0 a0 b
   rw[h] at ht hd
   simp only at ht hd
   rw[ht,hd]
  subst ha
  have hN':New W L (fun _=>true) b w:=hN.step hM (Below.refl _ _) fun j o Φ hj _=>hdone j C6
  exact any_tailX hdn hT T 0 fuel listed _ w rfl hsz hcl (fun j hj=>hdone j E4) (fun j hj hj2=>hu j E4 hj2) hf (hQ b w hN')
 intro fuel
 induction fuel with
 | zero =>
  intro listed b a w hsz hcl hu hf hS hN
  refine hfin 0 listed b a w hsz hcl hu hf hS hN fun j hj=>?_
  cases hv:listed.getD j false with
  | true=>rfl
  | false =>
   rw[H8 C7 false true] at hv
   have:=A0f hv;omega
 | succ fuel ih =>
  intro listed b a w hsz hcl hu hf hS hN
  by_cases hdone:∀j,j<l.length->listed.getD j false=true
  ·exact hfin (fuel+1) listed b a w hsz hcl hu hf hS hN hdone
  ·simp only[Classical.not_forall] at hdone
   obtain⟨m,hm,hmu⟩:=hdone
   have hmu':listed.getD m false=false:=by simpa using hmu
   have hmt:listed.getD m true=false:=by rw[H8 C7 true false];exact hmu'
   refine⟨fun h0=>absurd h0 (Q1 hdn hsz m C8 hmt),fun i hi=>?_⟩
   obtain⟨hiu,oi,hoi,_⟩:=mem_ready.1 hi
   have hi':i<(l++T).length:=by simpa using (A3y.1 hoi).1
   have hil:i<l.length:=by
    rcases A5n i l.length with h'|h'
    ·exact h'
    ·have hoT:T[i - l.length]?=some oi:=by
      simp only[A3o] at hoi
      rwa [A3P h'] at hoi
     have:=P1 hcl hi hoi (T9 hT hoT (i:=m) E9)
     rw[hmu'] at this;cases this
   have hgx:L[i]?=some (L[i]'E9):=A3p E9
   generalize L[i]'E9=x at hgx
   have hox:oi=x.1:=by
    simp only[A3o] at hoi
    rw[A3E hil,hlo hgx] at hoi
    exact(Option.some.inj hoi).symm
   subst hox
   have hsel':∀cs b,x.1.op≠.select cs b:=fun cs b=>Region.noSelect_spec hsel i x.1 cs b (by simpa using hlo hgx)
   have htext:=Sees.text hA a0 b i E9
   have hiu':listed.getD i false=false:=by rw[H8 E9 false true];exact hiu
   -- the frame in the text's order looks the same to this operation
   have hsame:=A1X (ops:=(l++T).toArray) hsel' (a1:=a) (a2:=actT (L.take i) 0 a0 b) fun t ht=>hS.same htext t fun j y hj hd=>by
    have h1:=(hpair hgx hj hd).2 ht
    exact⟨O3 hi hoi h1.2,by simpa using h1.1⟩
   have hF:FactsAt md x.1 (factsT (L.take i) 0 []) b w:=fun f hf hd=>by
    rcases mem_factsT _ _ _ hf with h1|⟨k,o,hk,he⟩
    ·cases h1
    ·have hk':L[k]?=some (o,.any f.2):=by
      rw[A4f] at hk
      split at hk
      ·exact hk
      ·cases hk
     have:f.1=k:=by omega
     rw[this] at hd |-
     exact hN.2 k o _ hk' (O3 hi hoi hd)
   have hst:=hstep i x hgx
   have hset:∀j,j<L.length->(j == i || listed.getD j false)=(listed.setIfInBounds i true).getD j false:=fun j hj=>by
    by_cases hji:i=j
    ·subst hji
     simp[Array.getD,show i<listed.size by omega]
    ·rw[getD_set_ne false hji];simp[Ne.symm hji]
   have hu':∀j,l.length<=j->j<(l++T).length->(listed.setIfInBounds i true).getD j true=false:=fun j hj hj2=>by
    rw[getD_set_ne true E9];exact hu j hj hj2
   have hf':left (listed.setIfInBounds i true)<=fuel:=by have:=A0c hiu;omega
   have hgo:∀(b':Nat->Value)(w':World),Sees L a0 (fun j=>j == i || listed.getD j false) b' (a.put x.1.dst (x.2.val (b' i)))->New W L (fun j=>j == i || listed.getD j false) b' w' ->
     wpAnyIn Fence.wide nn P md (l++T).toArray Q fuel (listed.setIfInBounds i true) (a.put x.1.dst (x.2.val (b' i))) w':=fun b' w' hS' hN' =>
    ih _ b' _ w' E2 (hcl.set hi) hu' hf' (hS'.congr hset (fun _ _ _=>rfl)) (hN'.step hM (Below.refl _ _) fun j o Φ hj hl=>by
     rw[hset j (A3n.1 hj).1];exact hl)
   obtain⟨o,κ⟩:=x
   unfold wpOpIn
   rw[hoi]
   simp only
   cases κ with
   | fix v =>
    have hkeep:∀w',Below w.heap.size w w'->New W L (fun j=>j == i || listed.getD j false) b w':=fun w' hb=>hN.step hM hb fun j o' Φ hj hl=>by
     by_cases hji:j=i
     ·subst hji;rw[hgx] at hj;cases hj
     ·simpa[hji] using hl
    have hS':=hS.put hA hgx
    rcases hst b w hN.1 hF with⟨hw,hq⟩|⟨hw,hv⟩
    ·rw[<-hsame.2] at hw
     rw[if_pos hw]
     refine wpIn_of_at (C:=Below w.heap.size w) (Below.refl _ _) (v:=v) ?_ (fun w' hb=>hgo b w' hS' (hkeep w' hb)) (hdf _ (A4d (hlo hgx)))
     unfold Oper.quietAt at hq |-
     rw[hsame.1]
     exact hq
    ·rw[<-hsame.2] at hw
     rw[if_neg (by rw[hw];decide)]
     have h1:=hgo b w hS' (hkeep w (Below.refl _ _))
     simp only[Kind.val,hv] at h1
     exact⟨fun _ _=>trivial,h1⟩
   | any Φ =>
    obtain⟨hMon,hst⟩:=hst
    obtain⟨hw,hr⟩:=hst b w hN.1 hF
    rw[<-hsame.2] at hw
    rw[if_pos hw]
    refine wpIn_of_yields (R:=fun v w''=>Φ v w''/\Below w.heap.size w w'') ?_ (fun v w' hv=>?_) (hdf _ (A4d (hlo hgx)))
    ·unfold yieldsAt at hr |-
     rw[hsame.1]
     exact hr
    ·have hN':=hN.lay hM hgx hv.1 hv.2
     have hS1:Sees L a0 (fun j=>listed.getD j false) (fun j=>if j=i then v else b j) a:=hS.congr (fun _ _=>rfl) fun j _ hl=>by
      rw[if_neg]
      intro e
      subst e
      rw[hiu'] at hl;cases hl
     have hS':=hS1.put hA hgx
     have h1:=hgo _ _ hS' hN'
     simpa[Kind.val] using h1
theorem region_valX{id:Nat}{Q:Exit->Act->World->Prop}{a:Act}{w:World}(l T:List Oper)(hm:P.follows .mixedOrders=true)(hB:frontOK .any l T=true)(hdf:∀o∈l,isDefer o=false)
  (h:wpV P .any (l++T).toArray w (fun a' F=>∀b w',Cls w w'->(∀x∈F,x.2 (b x.1) w')->wpListIn Fence.wide nn P (l++T).toArray Q T (a' b) w') l 0 (fun _=>a) []) :
  (Code.region id (l++T).toArray true).wpIn Fence.wide nn P Q a w:=by
 obtain⟨L,hL,hstep,hQ⟩:=wpV_out l 0 _ [] h
 refine wpIn_region_any hm (any_frontX hB hdf hL hstep (fun b w' hN=>hQ b w' hN.1 (fun x hx=>?_)) _ _ (fun _=>undef) a _ F0 (fun j o _ hl=>by simp only[Array.getD] at hl;split at hl<;>simp at hl) (fun j _ hj=>by simp only[A3k] at hj;simp[Array.getD];omega) ?_ ?_ ?_)
 ·rcases mem_factsT _ _ _ hx with h1|⟨k,o,hk,he⟩
  ·cases h1
  ·have:x.1=k:=by omega
   rw[this]
   exact hN.2 k o _ hk rfl
 ·unfold left
  exact A3T List.countP_le_length F0
 ·refine(Sees.start L a (fun _=>undef)).congr (fun j _=>?_) (fun _ _ _=>rfl)
  simp only[Array.getD]
  split<;>simp
 ·refine⟨⟨rfl,rfl,rfl,A3t _,fun _ _=>rfl⟩,fun j o Φ hj hl=>?_⟩
  simp only[Array.getD] at hl
  split at hl<;>simp at hl
theorem region_val_litX{id:Nat}{Q:Exit->Act->World->Prop}{a:Act}{w:World}{l:List Oper}(n:Nat)(hm:P.follows .mixedOrders=true)(hB:frontOK .any (l.take n) (l.drop n)=true)(hdf:((l.take n).all fun o => !isDefer o)=true)
  (h:wpV P .any l.toArray w (fun a' F=>∀b w',Cls w w'->(∀x∈F,x.2 (b x.1) w')->wpListIn Fence.wide nn P l.toArray Q (l.drop n) (a' b) w') (l.take n) 0 (fun _=>a) []) :
  (Code.region id l.toArray true).wpIn Fence.wide nn P Q a w:=by
 have:=region_valX (P:=P) (id:=id) (Q:=Q) (a:=a) (w:=w) (l.take n) (l.drop n) hm hB (fun o ho=>by have:=A3V.1 hdf o ho;simpa using this) (by rwa [A3O])
 rwa [A3O] at this
end
end MV
section
open Go.ChangeShapes Go.WideShapes Go.ChangeAt Go.RowKit
attribute [local irreducible] wpList wpListIn Oper.quietAt wpM
section
theorem yields_val{P:Program}{o:Oper}{a:Act}{w w':World}{v:Value}{R:Value->World->Prop}(hr:(execOp a.eval o).run P w=.ok (.value v) w')(h:R v w'):MV.yieldsAt P o a R w:=by
 unfold MV.yieldsAt
 rw[hr]
 exact h
theorem appendBig_four(x:Nat)(w0:World) :
  Calls Tryz.prog 162 #[.slice none 0 0,.int .i64 4,.int .u64 (x:Int)] w0 fun e w'=>∃v,e=.returned v/\BytesAt w' v (beB x 4)/\Below w0.heap.size w0 w':=by
 have hS:=St.start w0
 go_enter Tryz.func162,Tryz.ntmps162
 refine Zdsm ?_;intro _ _ _
 refine A2d (n:=4) stp_list own_st hS F1 F1 F1 F1 E5 E5 (by exact Tryz.underlying3) ⟨by omega,by omega⟩ ?_
 clear hS
 intro b c w h1 h2 hS
 refine F2 ?_
 have h2':=h2
 unfold maxLen at h2'
 refine Zdsm ?_;intro _ _
 have hX:ovw (bvs (zs c)) 0 (beB x 4)=bvs (beB x 4++zs (c - 4)):=by
  rw[O8,H6,A4g,A3q]
  congr 2
  unfold zs;rw[A4o]
 refine X0 stp_list own_st hS F1 F1 F1 F1 F1 E5 (S0 b 0 4 c _ 5 x _ (hS.blk 0 rfl) (by rw[F3,zs_len];omega) E9 E9) E3 hX A9 ?_
 clear hS
 intro w hS
 refine F2 ?_
 refine Zdsm ?_;show _
 go_ret
 exact⟨_,rfl,F8 (pre:=[]) (post:=(zs (c - 4)).map bv) (off:=0) (n:=4) (c:=c) (hS.blk 0 rfl) (by simp[bvs]) rfl (H6 _ _) h1,hS.below⟩
theorem yields_str{P:Program}{o:Oper}{a:Act}{w:World}{src dst e:TypeId}{x:Operand}{l:List UInt8}(hop:o.op=.convert src dst x)(hx:evO a x=some (.string ⟨l.toArray⟩))(hs:P.underlying src=some .string)(hd:P.underlying dst=some (.slice e))(he:P.underlying e=some (.int .u8)):MV.yieldsAt P o a (fun v w'=>BytesAt w' v l/\Below w.heap.size w w') w:=by
 have hr:=run_bytes_of_string (P:=P) w src dst e ⟨l.toArray⟩ hs hd he
 refine yields_val (w':=_) (v:=_) (by unfold execOp;rw[hop];simp only[F4 hx,Sem.run_bind,hr,Result.andThen_ok];rfl) ?_
 have hcap:=grownCap_ge w l.length 0 e
 have hsz:(⟨l.toArray⟩:ByteArray).size=l.length:=by simp[ByteArray.size]
 rw[hsz]
 generalize grownCap w l.length 0 e=c at hcap |-
 have hB:Below w.heap.size w w.drew:=⟨rfl,rfl,rfl,A3t _,fun _ _=>rfl⟩
 refine⟨L5 (cs:=bytesRow ⟨l.toArray⟩ c) (t:=e) (fr:=_) (by rw[P5];exact if_pos rfl) rfl hcap fun i y hy=>?_,hB.trans ((Below.refl w.drew.heap.size w.drew).alloc (A3t _) _)⟩
 unfold bytesRow
 rw[A3x,Array.getElem?_append_left (by simp;exact(A3n.1 hy).1)]
 simp[hy,bv]
theorem A2O{P:Program}{o:Oper}{a:Act}{w:World}{t e size bytes len:Nat}{parts:Array (Nat × Operand)}{vs:List Value}(hop:o.op=.buildSlice t len parts)(hp:evi a 0 parts.toList=some vs)(hT:SlT P t e size bytes)(hl:parts.toList.length=len)(h1:∀v∈vs,v.cells.size=size)(hlen:len*size<=2 ^ 24)(hpos:0<len){R:Value->World->Prop}(hR:∀(b:Nat)(w':World),blk w' b=some (.cells (vs.flatMap fun v=>v.cells.toList).toArray e (0,0))->Below w.heap.size w w'->R (.slice (some ⟨b,0,none⟩) len len) w'):MV.yieldsAt P o a R w :=
 yields_val (Q3 hop hp hT hl h1 rfl hlen hpos) (hR _ _ (by rw[P5,if_pos rfl]) ((Below.refl _ _).alloc (A3t _) _))
def strT(lab:List UInt8):List UInt8:=beB 1 4++(lab++[0])
theorem stream_any(key lab:List UInt8)(hne:key≠[])(hk:key.length<=1000000)(kv:Value)(w0:World)(hkv:BytesAt w0 kv key) :
  Calls Tryz.prog 129 #[kv,.string ⟨lab.toArray⟩] w0 fun e w'=>∃b1 b2 g c sp,e=.returned (.func (.func 192) #[] #[.pointer (some ⟨b1,0,none⟩),.pointer (some ⟨b2,0,none⟩)])/\(w0.heap.size<=b1/\w0.heap.size<=b2/\w0.heap.size<=g)/\blk w' b1=some (.cells #[.slice (some ⟨g,0,none⟩) key.length c] 23 (0,0))/\blk w' b2=some (.cells #[.string ⟨lab.toArray⟩] 9 (0,0))/\key.length<=c/\blk w' g=some (.cells (key.map bv++sp).toArray 5 (0,0))/\Below w0.heap.size w0 w':=by
 have hS:=St.start w0
 have hcl:=fun w h=>A1Y kv key hne E9 w h
 go_enter Tryz.func129,Tryz.ntmps129
 refine Zdsm ?_;clear hS;intro _ b w hS _ _
 refine F7 stp_list F1 F1 F1 F1 F1 E5 (hcl _ (hkv.below hS.below)) ?_
 rintro e w2 ⟨g,c,sp,rfl,⟨c1,c2⟩,c3,c4,hB⟩
 refine⟨_,rfl,?_⟩
 refine F2 ?_
 replace hS:=own_st.new hS hB c3 c4
 refine Zdsm ?_;clear hS;intro b w w hS
 go_ret
 exact⟨_,_,g,c,sp,rfl,⟨hS.low 0 rfl,hS.low 2 rfl,hS.low 1 rfl⟩,hS.blk 0 rfl,hS.blk 2 rfl,c1,hS.blk 1 rfl,hS.below⟩
def Three(l1 l2 l3:List UInt8)(v:Value)(w:World):Prop:=∃bq x y z,v=.slice (some ⟨bq,0,none⟩) 3 3/\blk w bq=some (.cells #[x,y,z] 23 (0,0))/\BytesAt w x l1/\BytesAt w y l2/\BytesAt w z l3
theorem mon_bytes(l:List UInt8):MV.Mon (fun v w=>BytesAt w v l):=fun _ _ _ h hb=>h.below hb
theorem mon_three(l1 l2 l3:List UInt8):MV.Mon (Three l1 l2 l3):=fun v w w' ⟨bq,x,y,z,h1,h2,h3,h4,h5⟩ hb=>⟨bq,x,y,z,h1,(hb.block bq (G1 h2)).trans h2,h3.below hb,h4.below hb,h5.below hb⟩
theorem W8{w:World}{v:Value}{l:List UInt8}(h:BytesAt w v l):v.cells=#[v]:=by
 obtain⟨p,c,rfl,_⟩:=h;rfl
theorem tag_three(key:List UInt8)(hk:key.length<=1000000)(l1 l2 l3:List UInt8)(h1:l1≠[])(h2:l2≠[])(h3:l3≠[])(hl:l1.length+l2.length+l3.length<=100000)(kv v:Value)(w:World)(hkv:BytesAt w kv key)(hv:Three l1 l2 l3 v w) :
  Calls Tryz.prog 96 #[kv,v] w fun e w'=>e=.returned (.agg (bvs (tagL key (l1++(l2++l3)))))/\Below w.heap.size w w':=by
 obtain⟨bq,x,y,z,rfl,hb,a1,a2,a3⟩:=hv
 have htg:=A1M key hk kv [x,y,z] [l1,l2,l3] F0 E6 bq 0 3 _ _ _ w hkv (PartsAt.cons a1 h1 (PartsAt.cons a2 h2 (PartsAt.cons a3 h3 (PartsAt.nil _)))) hb (fun j v h=>by rw[A3x,A3o];exact h) F0
 rwa [show [l1,l2,l3].flatten=l1++(l2++l3) by simp] at htg
theorem one_built{o:Oper}{a:Act}{w:World}{t:TypeId}{parts:Array (Nat × Operand)}(hop:o.op=.buildSlice t 1 parts)(hp:evi a 0 parts.toList=some [.int .u8 0])(hl:parts.toList.length=1)(hT:SlT Tryz.prog t 5 1 1):MV.yieldsAt Tryz.prog o a (fun v w'=>BytesAt w' v [0]/\Below w.heap.size w w') w:=by
 refine A2O hop hp hT hl (fun v hv=>?_) E8 E8 fun b w' hb hB=>⟨F8 (l:=[0]) (pre:=[]) (post:=[]) (off:=0) hb F1 rfl rfl (A3t _),hB⟩
 simp only[A3G,A3W,or_false] at hv
 subst hv;rfl
theorem three_built{o:Oper}{a:Act}{w:World}{t:TypeId}{parts:Array (Nat × Operand)}{x y z:Value}{l1 l2 l3:List UInt8}(hop:o.op=.buildSlice t 3 parts)(hp:evi a 0 parts.toList=some [x,y,z])(hl:parts.toList.length=3)(hT:SlT Tryz.prog t 23 1 24)(h1:BytesAt w x l1)(h2:BytesAt w y l2)(h3:BytesAt w z l3):MV.yieldsAt Tryz.prog o a (fun v w'=>Three l1 l2 l3 v w'/\Below w.heap.size w w') w:=by
 refine A2O hop hp hT hl (fun v hv=>?_) E8 E8 fun b w' hb hB=>⟨⟨b,x,y,z,rfl,?_,h1.below hB,h2.below hB,h3.below hB⟩,hB⟩
 ·simp only[A3G,A3W,or_false] at hv
  rcases hv with rfl|rfl|rfl
  ·rw[W8 h1];rfl
  ·rw[W8 h2];rfl
  ·rw[W8 h3];rfl
 ·rw[hb]
  simp[W8 h1,W8 h2,W8 h3]
theorem stream1_iter(key lab:List UInt8)(hne:key≠[])(hk:key.length<=1000000)(hlab:lab≠[]/\lab.length<=1000)(b1 b2 g c:Nat)(sp:List Value)(hc:key.length<=c)(W0:World)(hb1:blk W0 b1=some (.cells #[.slice (some ⟨g,0,none⟩) key.length c] 23 (0,0)))(hb2:blk W0 b2=some (.cells #[.string ⟨lab.toArray⟩] 9 (0,0)))(hg:blk W0 g=some (.cells (key.map bv++sp).toArray 5 (0,0))) :
  IterAt Tryz.prog 192 #[.pointer (some ⟨b1,0,none⟩),.pointer (some ⟨b2,0,none⟩)] (fun k=>#[.agg (bvs (tagL key (beB (k+1) 4++(lab++[0]))))]) (some 4096) [b1,b2,g] W0:=by
 intro lb J Jx M W L0 hbW hR hM hJ0 hH' hY
 have hb1W:=(hbW.block b1 (G1 hb1)).trans hb1
 have hb2W:=(hbW.block b2 (G1 hb2)).trans hb2
 have hgW:=(hbW.block g (G1 hg)).trans hg
 have n1:b1∉L0.map (·.1):=hR b1 F0
 have n2:b2∉L0.map (·.1):=hR b2 F0
 have n3:g∉L0.map (·.1):=hR g F0
 clear hb1 hb2 hg hbW hR
 refine(callsIn_wide (n:=1)).1 ?_
 refine callsIn_of_wp Tryz.func192 rfl trivial ?_ rfl
 simp only[Tryz.ntmps192,A3R,A3D,A3S,Nat.reduceAdd,Nat.reduceSub,A4h,A4i,A4t,A4l,A3q,A3F]
 have hS:=St.start W
 refine ZdVm ?_;intro _
 gi_loopg [4] 4096 (fun r u4 wr=>∃k L,r+k=4096/\u4=.int .u32 ((k+1:Nat):Int)/\J k L/\Rd L0 W L wr)
 case atStart=>exact⟨0,L0,by omega,rfl,hJ0,.call hH' hS.below⟩
 case round =>
  obtain⟨k,L,hk2,rfl,hJ,hRd⟩:=hrel
  have hr1:=(hRd.farCells hb1W n1).1
  have hr2:=(hRd.farCells hb2W n2).1
  have hr3:=(hRd.farCells hgW n3).1
  replace hS:=St.start wr
  by_cases hlt:k<4096
  ·have hyk:=fun W=>hY k L W hJ
   dsimp only at hyk
   have hap:=fun w=>appendBig_four (k+1) w
   have h4:beB (k+1) 4≠[]:=by intro e;have:=congrArg List.length e;rw[H6] at this;cases this
   have l4:=H6 (k+1) 4
   obtain⟨l1,hl1⟩:∃l,beB (k+1) 4=l:=⟨_,rfl⟩
   rw[hl1] at hap h4 hyk l4
   have hkv:∀w,Below wr.heap.size wr w->BytesAt w (.slice (some ⟨g,0,none⟩) key.length c) key:=fun w hb=>F8 (pre:=[]) (post:=sp) (off:=0) ((hb.block g (G1 hr3)).trans hr3) F0 rfl rfl hc
   have htg:=fun w v hb hv=>tag_three key hk l1 lab [0] h4 hlab.1 F0 E6 (.slice (some ⟨g,0,none⟩) key.length c) v w (hkv w hb) hv
   obtain⟨G,hG⟩:∃x,tagL key (l1++(lab++[0]))=x:=⟨_,rfl⟩
   rw[hG] at htg hyk
   refine ZdVm ?_;intro _ _ _ _
   refine MV.region_val_litX 10 E7 E7 E7 ?_
   dsimp only[List.take,List.drop]
   iterate 10 (first|(refine MV.wpV_want (fun _=>rfl) (fun K hK=>?_);apply Exists.intro;refine⟨fun pB w' hw' hF=>?_,hK _ _ ?_⟩;(focus (have hZ:=(own_st).call hS hw';exact(G8 (htg _ _ hZ.below (MV.FactsAt.at 8 hF)))));clear hK K;refine Zo ?_)|refine ZV ?_|(refine MV.wpV_want (fun _=>rfl) (fun K hK=>?_);apply Exists.intro;refine⟨fun pB w' hw' hF=>?_,hK _ _ ?_⟩;(focus (have hZ:=(own_st).call hS hw';first|exact T6 (by exact((hZ).far hr1).1)|exact T6 (by exact((hZ).far hr2).1)));clear hK K;refine Zo ?_)|(refine MV.wpV_same ((fun v w=>BytesAt w v l1)) ((mon_bytes l1)) (fun _=>rfl) (fun bb w' hw' hF=>?_) ?_;(focus (have hZ:=(own_st).call hS hw';exact(MV.yields_call (hap _))));refine Zo ?_)|(refine MV.wpV_same ((fun v w=>BytesAt w v lab)) ((mon_bytes lab)) (fun _=>rfl) (fun bb w' hw' hF=>?_) ?_;(focus (have hZ:=(own_st).call hS hw';exact(yields_str F1 F1 Tryz.underlying9 Tryz.underlying23 Tryz.underlying5)));refine Zo ?_)|(refine MV.wpV_same ((fun v w=>BytesAt w v [0])) ((mon_bytes [0])) (fun _=>rfl) (fun bb w' hw' hF=>?_) ?_;(focus (have hZ:=(own_st).call hS hw';exact(one_built F1 F1 F1 E5)));refine Zo ?_)|(refine MV.wpV_same ((Three l1 lab [0])) ((mon_three l1 lab [0])) (fun _=>rfl) (fun bb w' hw' hF=>?_) ?_;(focus (have hZ:=(own_st).call hS hw';exact(three_built F1 F1 F1 E5 (MV.FactsAt.at (Φ:=fun v w=>BytesAt w v l1) 4 hF) (MV.FactsAt.at (Φ:=fun v w=>BytesAt w v lab) 6 hF) (MV.FactsAt.at (Φ:=fun v w=>BytesAt w v [0]) 7 hF))));refine Zo ?_))
   refine MV.wpV_nil ?_
   intro bb w hcq hfq
   replace hS:=(own_st).call hS hcq
   try dsimp only
   have hRd1:Rd L0 W L _:=hRd.trans (.call hRd.holds hS.below)
   (refine A0N F1 F1 F1 F1 F1 C5 ?_)
   rintro e W3 ⟨L2,hRd2,(⟨rfl,hJ2⟩|⟨rfl,hx⟩)⟩
   ·refine⟨_,rfl,?_⟩
    refine F2 ?_
    have hRd3:=hRd1.trans hRd2
    replace hS:=St.start W3
    repeat' (first|refine ZaVm ?_|(refine Zli ?_;(refine Stp.go F5 F1 F1 (r_add (k:=.u32) (q:=((k+1+1:Nat):Int)) F1 F1 F1 (fits_u32 E9) (by push_cast;rfl)) ?_;refine F2 ?_))|(refine Zi ?_;gi_step)|fail)
    gi_roundg (gk - 1)
    case rel=>exact⟨k+1,L2,by omega,rfl,hJ2,hRd3.trans (.call hRd3.holds hS.below)⟩
    case measure=>omega
   ·refine⟨_,rfl,?_⟩
    refine F2 ?_
    have hRd3:=hRd1.trans hRd2
    replace hS:=St.start W3
    refine ZdVm ?_;intro _
    refine bodyPost_end (results_none rfl _ _ _) rfl ?_
    exact⟨⟨_,rfl⟩,L2,hRd3,.inr hx⟩
  ·obtain rfl:k=4096:=by omega
   refine ZdVm ?_;intro _ _
   refine bodyPost_end (results_none rfl _ _ _) rfl ?_
   exact⟨⟨_,rfl⟩,L,hRd.trans (.call hRd.holds hS.below),.inl ⟨_,rfl,hJ⟩⟩
end
section
attribute [local irreducible] shaL
theorem cells_bv:∀l:List UInt8,((l.map bv).flatMap fun v=>v.cells.toList)=l.map bv
 | []=>rfl
 | x::l=>by rw[A3X,A4A,cells_bv l];rfl
theorem s_constB{P:Program}{ops:Array Oper}{W:List Oper->Act->World->Prop}{o1 o2:Oper}{rest:List Oper}{a:Act}{w:World}{B:Nat}{H:World->List Blk->Prop}{L:List Blk}{t e len:Nat}{parts:Array (Nat × Operand)}{y:Operand}{l:List UInt8}(hs:Stp P ops W)(hH:Own B H)(hS:H w L)
  (hw1:Region.wanted o1 (yielded ops a.tmps)=true)(hop1:o1.op=.buildSlice t len parts)(hp:evi a 0 parts.toList=some (l.map bv))(hl:l.length=len)(hT:SlT P t e 1 1)(hpl:parts.toList.length=len)(hpos:0<len)(hle:len<=1000)(hte:P.underlying t=some (.slice e))(heu:P.underlying e=some (.int .u8))
  (hw2:∀b:Nat,Region.wanted o2 (yielded ops (a.put o1.dst (.slice (some ⟨b,0,none⟩) len len)).tmps)=true)(hop2:o2.op=.convert t t y)(hy:∀b:Nat,evO (a.put o1.dst (.slice (some ⟨b,0,none⟩) len len)) y=some (.slice (some ⟨b,0,none⟩) len len))
  (hk:∀(b:Nat)(w':World),H w' L->Below w.heap.size w w'->BytesAt w' (.slice (some ⟨b,0,none⟩) len len) l->W rest ((a.put o1.dst (.slice (some ⟨b,0,none⟩) len len)).put o2.dst (.slice (some ⟨b,0,none⟩) len len)) w'):W (o1::o2::rest) a w:=by
 have hf:=cells_bv l
 refine hs.go hw1 (by unfold isDefer;rw[hop1]) (Q3 hop1 hp hT hpl (fun v hv=>by obtain⟨x,_,rfl⟩:=A3C.1 hv;rfl) hf E9 hpos) ?_
 refine hs.go (v:=.slice (some ⟨w.heap.size,0,none⟩) len len) (w':=w.alloc (.cells (l.map bv).toArray e ((l.map bv).toArray.size,(l.map bv).toArray.size+1))) (hw2 _) (by unfold isDefer;rw[hop2]) ?_ ?_
 ·unfold execOp;rw[hop2]
  simp only[F4 (hy _),Sem.run_bind,Go.Lib.run_convert_bytes_const w t e (l.map bv).toArray len len hte heu,Result.andThen_ok]
  rfl
 ·have hB:Below w.heap.size w (w.alloc (.cells (l.map bv).toArray e ((l.map bv).toArray.size,(l.map bv).toArray.size+1))):=(Below.refl _ _).alloc (A3t _) _
  refine hk _ _ (hH.call hS hB) hB (L5 (by rw[P5];exact if_pos rfl) hl (A3t _) fun i x hx=>?_)
  rw[A3x,A3o,A3N,hx];rfl
theorem s_buildX{P:Program}{ops:Array Oper}{W:List Oper->Act->World->Prop}{o:Oper}{rest:List Oper}{a:Act}{w:World}{B:Nat}{H:World->List Blk->Prop}{L:List Blk}{t e size bytes len:Nat}{parts:Array (Nat × Operand)}{vs cells:List Value}(hs:Stp P ops W)(hH:Own B H)(hS:H w L)
  (hk:∀(b:Nat)(w':World),H w' ((b,cells.toArray,e)::L)->Below w.heap.size w w'->W rest (a.put o.dst (.slice (some ⟨b,0,none⟩) len len)) w')(hop:o.op=.buildSlice t len parts:=by rfl)(hp:evi a 0 parts.toList=some vs:=by rfl)(hT:SlT P t e size bytes:=by infer_instance)(hl:parts.toList.length=len:=by rfl)
  (h1:∀v∈vs,v.cells.size=size:=by repeat (first|exact(fun _ h=>absurd h A3W)|refine List.forall_mem_cons.2 ⟨by first|rfl|(simp only[Value.cells];first|rfl|omega),?_⟩))(hc:(vs.flatMap fun v=>v.cells.toList)=cells:=by(try conv=>lhs;simp only[A4A,List.flatMap_nil,Value.cells,A3Q,A3F,A3q]);first|done|rfl)(hlen:len*size<=2 ^ 24:=by decide)(hpos:0<len:=by decide)(hw:Region.wanted o (yielded ops a.tmps)=true:=by rfl):W (o::rest) a w:=by
 refine hs.go hw D5 (Q3 hop hp hT hl h1 hc hlen hpos) (hk _ _ (hH.alloc _ _ hS) ((Below.refl _ _).alloc (A3t _) _))
theorem r_convK{P:Program}{o:Oper}{a:Act}{w:World}{s t:TypeId}{x:Operand}{k k' ks:IntKind}{n q:Int}(hop:o.op=.convert s t x)(hx:evO a x=some (.int k n))(hs:IntT P s ks)(ht:IntT P t k')(hq:k'.wrap n=q):(execOp a.eval o).run P w=.ok (.value (.int k' q)) w:=by
 subst hq
 unfold execOp;rw[hop]
 simp only[F4 hx,convert,Sem.run_bind,run_underlying hs.is,run_underlying ht.is,Result.andThen_ok,Conv.intToInt]
 rfl
def numL(n:Int):List UInt8:=beB (u64W n) 8
theorem numL_len(n:Int):(numL n).length=8:=H6 _ _
theorem numL_ne(n:Int):numL n≠[]:=fun h=>by have:=numL_len n;rw[h] at this;cases this
theorem appendBig_eight(x:Nat)(w0:World) :
  Calls Tryz.prog 162 #[.slice none 0 0,.int .i64 8,.int .u64 (x:Int)] w0 fun e w'=>∃v,e=.returned v/\BytesAt w' v (beB x 8)/\Below w0.heap.size w0 w':=by
 have hS:=St.start w0
 go_enter Tryz.func162,Tryz.ntmps162
 refine Zdsm ?_;intro _ _ _
 refine A2d (n:=8) stp_list own_st hS F1 F1 F1 F1 E5 E5 (by exact Tryz.underlying3) ⟨by omega,by omega⟩ ?_
 clear hS
 intro b c w h1 h2 hS
 refine F2 ?_
 have h2':=h2
 unfold maxLen at h2'
 refine Zdsm ?_;intro _ _
 have hX:ovw (bvs (zs c)) 0 (beB x 8)=bvs (beB x 8++zs (c - 8)):=by
  rw[O8,H6,A4g,A3q]
  congr 2
  unfold zs;rw[A4o]
 refine X0 stp_list own_st hS F1 F1 F1 F1 F1 E5 (S0 b 0 8 c _ 5 x _ (hS.blk 0 rfl) (by rw[F3,zs_len];omega) E9 E9) E3 hX A9 ?_
 clear hS
 intro w hS
 refine F2 ?_
 refine Zdsm ?_;show _
 go_ret
 exact⟨_,rfl,F8 (pre:=[]) (post:=(zs (c - 8)).map bv) (off:=0) (n:=8) (c:=c) (hS.blk 0 rfl) (by simp[bvs]) rfl (H6 _ _) h1,hS.below⟩
theorem wrap_u64W(n:Int):IntKind.u64.wrap n=(u64W n:Int):=by
 unfold u64W
 rw[IntKind.wrap_u64]
 omega
theorem chapnum_any(n:Int)(w0:World):Calls Tryz.prog 108 #[.int .i64 n] w0 fun e w'=>∃v,e=.returned v/\BytesAt w' v (numL n)/\Below w0.heap.size w0 w':=by
 have hS:=St.start w0
 have hu:=wrap_u64W n
 go_enter Tryz.func108,Tryz.ntmps108
 repeat' (first|refine Zasm ?_|(refine Zll ?_;(refine Stp.go stp_list F1 F1 (r_convK F1 F1 E5 E5 hu) ?_;refine F2 ?_))|(refine Zg ?_;go_step)|fail)
 refine F7 stp_list F1 F1 F1 F1 F1 E5 (appendBig_eight (u64W n) _) ?_
 rintro e w1 ⟨v1,rfl,hv1,hB⟩
 refine⟨_,rfl,?_⟩
 replace hS:=hS.call hB
 refine F2 ?_
 refine Zdsm ?_;show _
 go_ret
 exact⟨_,rfl,hv1,hS.below⟩
def drawL(s n:Int):List UInt8:=tagL (numL s) ([100,114,97,119]++numL n)
theorem draw_any(s n:Int)(w0:World):Calls Tryz.prog 65 #[.int .i64 s,.int .i64 n] w0 fun e w'=>e=.returned (.agg (bvs (drawL s n)))/\Below w0.heap.size w0 w':=by
 have hS:=St.start w0
 have lT:(drawL s n).length=32:=K5 _ _
 have sT:csz (bvs (drawL s n))=32:=by rw[F3,lT]
 have sZ:csz (bvs (zs 32))=32:=by rw[F3,zs_len]
 have hT:drawL s n=tagL (numL s) ([100,114,97,119]++numL n):=rfl
 obtain⟨D,hD⟩:∃D,drawL s n=D:=⟨_,rfl⟩
 rw[hD] at lT sT hT |-
 go_enter Tryz.func65,Tryz.ntmps65
 refine Zdsm ?_;clear hS;intro _ b w hS _ _
 refine F7 stp_list F1 F1 F1 F1 F1 E5 (chapnum_any s _) ?_
 rintro e w1 ⟨v1,rfl,hv1,hB⟩
 refine⟨_,rfl,?_⟩
 replace hS:=hS.call hB
 clear hB
 refine F2 ?_
 refine s_constB (l:=[100,114,97,119]) stp_list own_st hS F1 F1 F1 F1 E5 F1 E9 E9 Tryz.underlying23 Tryz.underlying5 (fun _=>by rfl) F1 (fun _=>by rfl) ?_
 clear hS
 intro b1 w2 hS hB2 hc
 replace hv1:=hv1.below hB2
 clear hB2
 refine F2 ?_
 refine Zdsm ?_;show _
 refine F7 stp_list F1 F1 F1 F1 F1 E5 (chapnum_any n _) ?_
 rintro e w3 ⟨v2,rfl,hv2,hB⟩
 refine⟨_,rfl,?_⟩
 replace hS:=hS.call hB
 replace hv1:=hv1.below hB
 replace hc:=hc.below hB
 clear hB
 refine F2 ?_
 obtain⟨p2,c2,rfl,_⟩:=hv2.slice
 refine s_buildX stp_list own_st hS ?_
 clear hS
 intro b w4 hS hB
 refine F2 ?_
 have htg:=A1M (numL s) (by rw[numL_len];omega) v1 [.slice (some ⟨b1,0,none⟩) 4 4,.slice p2 (numL n).length c2] [[100,114,97,119],numL n] F0 (by simp[numL_len]) b 0 2 _ _ _ _ (hv1.below hB) (PartsAt.cons (hc.below hB) F0 (PartsAt.cons (hv2.below hB) (numL_ne n) (PartsAt.nil _))) (hS.blk 0 rfl) (fun j v h=>by rw[A3x,A3o];exact h) F0
 rw[show ([[100,114,97,119],numL n]:List (List UInt8)).flatten=[100,114,97,119]++numL n by simp,<-hT] at htg
 repeat' (first|(refine Ztsm ?_;clear hS;intro w hS)|(refine Zll ?_;(refine g_calls hS (htg) ?_;clear hS;intro w hS))|(refine Zg ?_;go_step)|fail)
 exact G2 (n:=32) Tryz.results65 E7 (.inl rfl) _ _ _ _ rfl rfl (hS.blk 1 rfl) (by rw[<-H5];exact sT) ⟨rfl,hS.below⟩
def ansL(i:Int)(sec ch:List UInt8):List UInt8:=shaL ([UInt8.ofNat (u64W i % 256)]++(sec++ch))
theorem answer_any(i:Int)(sec ch:List UInt8)(h1:sec≠[]/\sec.length<=1000)(h2:ch≠[]/\ch.length<=5000)(sv cv:Value)(w0:World)(hsv:BytesAt w0 sv sec)(hcv:BytesAt w0 cv ch):Calls Tryz.prog 158 #[.int .i64 i,sv,cv] w0 fun e w'=>e=.returned (.agg (bvs (ansL i sec ch)))/\Below w0.heap.size w0 w':=by
 have hS:=St.start w0
 have lT:(ansL i sec ch).length=32:=Y3 _
 have sT:csz (bvs (ansL i sec ch))=32:=by rw[F3,lT]
 have sZ:csz (bvs (zs 32))=32:=by rw[F3,zs_len]
 have hT:ansL i sec ch=shaL ([UInt8.ofNat (u64W i % 256)]++(sec++ch)):=rfl
 obtain⟨D,hD⟩:∃D,ansL i sec ch=D:=⟨_,rfl⟩
 rw[hD] at lT sT hT |-
 have hz:i % 256=((UInt8.ofNat (u64W i % 256)).toNat:Int):=by
  unfold u64W
  rw[UInt8.toNat_ofNat']
  omega
 obtain⟨z,hzz⟩:∃z,UInt8.ofNat (u64W i % 256)=z:=⟨_,rfl⟩
 rw[hzz] at hz hT
 obtain⟨p1,c1,rfl,_⟩:=hsv.slice
 obtain⟨p2,c2,rfl,_⟩:=hcv.slice
 go_enter Tryz.func158,Tryz.ntmps158
 repeat' (first|refine Zasm ?_|(refine Zks ?_;clear hS;intro b w hS)|(refine Zll ?_;(refine Stp.go stp_list F1 F1 (r_convQ (z:=z) F1 F1 E5 E5 (by exact hz)) ?_;refine F2 ?_))|(refine Zg ?_;go_step)|fail)
 have hzb:=F8 (l:=[z]) (pre:=[]) (post:=[]) (off:=0) (n:=1) (c:=1) (hS.blk 1 rfl) F1 rfl rfl (A3t _)
 have hof:=of_any [_,_,_] [[z],sec,ch] F0 E6 b 0 3 _ _ _ _ (PartsAt.cons hzb F0 (PartsAt.cons (hsv.below hS.below) h1.1 (PartsAt.cons (hcv.below hS.below) h2.1 (PartsAt.nil _)))) (hS.blk 0 rfl) (fun j v h=>by rw[A3x,A3o];exact h) F0
 rw[show ([[z],sec,ch]:List (List UInt8)).flatten=[z]++(sec++ch) by simp,<-hT] at hof
 repeat' (first|(refine Ztsm ?_;clear hS;intro w hS)|(refine Zll ?_;(refine g_calls hS (hof) ?_;clear hS;intro w hS))|(refine Zg ?_;go_step)|fail)
 exact G2 (n:=32) Tryz.results158 E7 (.inl rfl) _ _ _ _ rfl rfl (hS.blk 2 rfl) (by rw[<-H5];exact sT) ⟨rfl,hS.below⟩
end
end
end Go.Proofs.YtlfbfbbdpcihfaaGreat
