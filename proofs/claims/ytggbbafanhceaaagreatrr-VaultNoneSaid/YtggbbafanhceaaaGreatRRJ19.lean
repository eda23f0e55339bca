/-
  Laws that the claims of this seat use, of several texts in one. No condition of their own.
-/
import Derived.Test.YtggbbafanhceaaaGreatRRJ18
set_option maxRecDepth 100000
set_option maxHeartbeats 8000000
set_option linter.all false
namespace Go.Proofs.YtggbbafanhceaaaGreatRR
section
open Go.RowKit
section
variable{P:Program}{md:Region.Mode}{Q:Exit→Act→World→Prop}{s:List Nat}{l:List Oper}{lp:Nat}
theorem permR_wp(o:Oper)(a:Act)(w:World)(K:Act→World→Prop):Oper.wpIn (Fence.wide.inRound lp) 0 P (reO s o) a w K Q↔Oper.wpIn (Fence.wide.inRound lp) 0 P o a w K Q:=Iff.rfl
theorem any_permR(h:permOK s l=true):∀(fuel:Nat)(x y:Array Bool)(a:Act)(w:World),x.size=l.length→y.size=l.length→(∀i,i<l.length→y.getD (posL s i) true=x.getD i true) →
  wpAnyIn (Fence.wide.inRound lp) 0 P md (permL s l).toArray Q fuel y a w→wpAnyIn (Fence.wide.inRound lp) 0 P md l.toArray Q fuel x a w:=by
 intro fuel
 have hnil:∀(x y:Array Bool),x.size=l.length→y.size=l.length→(∀i,i<l.length→y.getD (posL s i) true=x.getD i true)→(Region.ready md (permL s l).toArray y=[]↔Region.ready md l.toArray x=[]):=by
  intro x y hx hy hxy
  constructor
  ·intro h0
   refine A5C.2 fun i hi=>?_
   obtain⟨_,o,ho,_⟩:=mem_ready.1 hi
   have hil:i<l.length:=by simpa using (A4L.1 ho).1
   have:=(A0c (md:=md) h hx hy hxy hil).2 hi
   rw[h0] at this;cases this
  ·intro h0
   refine A5C.2 fun k hk=>?_
   obtain⟨_,o,ho,_⟩:=mem_ready.1 hk
   have hkl:k<l.length:=by have:=(A4L.1 ho).1;rw[A4X,A4f h] at this;exact this
   obtain⟨i,hi,hil,rfl⟩:=perm_2 h hkl
   have:=(A0c (md:=md) h hx hy hxy hil).1 hk
   rw[h0] at this;cases this
 induction fuel with
 | zero =>
  intro x y a w hx hy hxy hA
  exact⟨(hnil x y hx hy hxy).1 hA.1,hA.2⟩
 | succ fuel ih =>
  intro x y a w hx hy hxy hA
  refine⟨fun h0=>hA.1 ((hnil x y hx hy hxy).2 h0),fun i hi=>?_⟩
  obtain⟨_,o,ho,_⟩:=mem_ready.1 hi
  have hil:i<l.length:=by simpa using (A4L.1 ho).1
  have ho2:l[i]?=some o:=by simpa using ho
  have h1:=hA.2 (posL s i) ((A0c (md:=md) h hx hy hxy hil).2 hi)
  have hp:=perm_at h ho2
  have hK:∀a' w',wpAnyIn (Fence.wide.inRound lp) 0 P md (permL s l).toArray Q fuel (y.setIfInBounds (posL s i) true) a' w'→wpAnyIn (Fence.wide.inRound lp) 0 P md l.toArray Q fuel (x.setIfInBounds i true) a' w':=fun a' w' hh=>by
   refine ih _ _ a' w' (by simpa using hx) (by simpa using hy) (fun j hj=>?_) hh
   have hj1:=A2m h hj
   have hi1:=A2m h hil
   by_cases hji:j=i
   ·subst hji
    simp[Array.getD,hx,hy,hj,hj1.1]
   ·have hne:posL s i≠posL s j:=fun e=>hji (by
     have:=hj1.2
     rw[←e,hi1.2] at this
     exact(Option.some.inj this).symm)
    rw[getD_set_ne true hne,getD_set_ne true (Ne.symm hji)]
    exact hxy j hj
  unfold wpOpIn at h1 ⊢
  rw[A4y,hp] at h1
  rw[A4y,ho2]
  simp only at h1 ⊢
  rw[perm_wanted h ho2] at h1
  split
  ·next hw =>
   rw[if_pos hw] at h1
   exact Oper.wpIn_mono hK ((permR_wp o a w _).1 h1)
  ·next hw =>
   rw[if_neg hw] at h1
   exact⟨h1.1,hK _ _ h1.2⟩
theorem any_monoR{n:Nat}{a:Act}{w:World}(hB:frontOK md (l.take n) (l.drop n)=true)(hND:noDefer (l.take n)=true)
  (h:wpM P md l.toArray w (fun a' F=>∀b w',Cls w w'→(∀x∈F,w.heap.size≤b x.1∧blk w' (b x.1)=some (.cells x.2.1 x.2.2 (0,0)))→(∀x∈F,∀y∈F,x.1≠y.1→b x.1≠b y.1)→wpListIn (Fence.wide.inRound lp) 0 P l.toArray Q (l.drop n) (a' b) w') (l.take n) 0 (fun _=>a) []) :
  wpAnyIn (Fence.wide.inRound lp) 0 P md l.toArray Q l.length (Array.replicate l.length false) a { w with drawn:=w.drawn+1 }:=by
 have hh:l.take n++l.drop n=l:=A4O n l
 generalize l.take n=A at *
 generalize l.drop n=T at *
 subst hh
 obtain⟨L,hL,hstep,hQ⟩:=wpM_out A 0 _ [] h
 have hc:Cls w { w with drawn:=w.drawn+1 }:=⟨rfl,rfl,rfl,A4F _,fun _ _=>rfl⟩
 refine any_frontR hB hND hL hstep (fun b w' hN=>hQ b w' hN.1 (fun x hx=>?_) (fun x hx y hy hne=>?_)) _ _ (fun _=>0) a _ I1 (fun j o _ hl=>by simp only[Array.getD] at hl;split at hl<;>simp at hl) (fun j _ hj=>by simp only[A4s] at hj;simp[Array.getD];omega) ?_ ?_ ?_
 ·rcases mem_factsT _ _ _ hx with h1|⟨k,o,mk,hk,he⟩
  ·cases h1
  ·have:x.1=k:=by omega
   rw[this]
   exact hN.2.1 k o mk _ _ hk rfl
 ·rcases mem_factsT _ _ _ hx with h1|⟨k,o,mk,hk,he⟩
  ·cases h1
  rcases mem_factsT _ _ _ hy with h1|⟨k',o',mk',hk',he'⟩
  ·cases h1
  have e1:x.1=k:=by omega
  have e2:y.1=k':=by omega
  rw[e1,e2] at hne ⊢
  exact hN.2.2 k k' _ _ _ _ _ _ _ _ hk hk' rfl rfl hne
 ·unfold left
  exact A4Y A6s I1
 ·refine(Sees.start L a (fun _=>0)).congr (fun j _=>?_) (fun _ _ _=>rfl)
  simp only[Array.getD]
  split<;>simp
 ·refine⟨hc,fun j o mk cs t hj hl=>?_,fun i j x y mx cx tx my cy ty hi hj h1 _=>?_⟩
  ·simp only[Array.getD] at hl
   split at hl<;>simp at hl
  ·simp only[Array.getD] at h1
   split at h1<;>simp at h1
theorem A4o{id:Nat}{a:Act}{w:World}(s:List Nat)(n:Nat){l2:List Oper}(hm:P.follows .mixedOrders=true)(hs:permOK s l=true)(hl:permL s l=l2)(hB:frontOK .any (l2.take n) (l2.drop n)=true)(hND:noDefer (l2.take n)=true)
  (h:wpM P .any l2.toArray w (fun a' F=>∀b w',Cls w w'→(∀x∈F,w.heap.size≤b x.1∧blk w' (b x.1)=some (.cells x.2.1 x.2.2 (0,0)))→(∀x∈F,∀y∈F,x.1≠y.1→b x.1≠b y.1)→wpListIn (Fence.wide.inRound lp) 0 P l2.toArray Q (l2.drop n) (a' b) w') (l2.take n) 0 (fun _=>a) []) :
  (Code.region id l.toArray true).wpIn (Fence.wide.inRound lp) 0 P Q a w:=by
 subst hl
 have h1:=any_monoR hB hND h
 rw[A4f hs] at h1
 refine wpIn_region_any hm ?_
 refine any_permR hs _ _ _ a _ I1 I1 (fun i hi=>?_) h1
 have:=(A2m hs hi).1
 simp[Array.getD,hi,this]
theorem wpM_allocZ{ops:Array Oper}{W:World}{Q:((Nat→Nat)→Act)→List Fact→Prop}{o:Oper}{rest:List Oper}{i:Nat}{a:(Nat→Nat)→Act}{F:List Fact}{t:TypeId}{cs:Array Value}(ho:o.op=.alloc t)(hz:ZeroT P t cs)(hw:∀b,Region.wanted o (yielded ops (a b).tmps)=true)
  (h:wpM P md ops W Q rest (i+1) (fun b=>(a b).put o.dst (.pointer (some ⟨b i,0,none⟩))) ((i,cs,t)::F)):wpM P md ops W Q (o::rest) i a F :=
 O7 ho hw cs (fun w=>by
  obtain⟨z,h1,h2⟩:=run_zero (w:=w) hz.is
  unfold execOp
  simp only[Instr.alloc,Sem.run_bind,h1,Result.andThen_ok,newVar,newRow,h2]
  rfl) h
end
end
end Go.Proofs.YtggbbafanhceaaaGreatRR
