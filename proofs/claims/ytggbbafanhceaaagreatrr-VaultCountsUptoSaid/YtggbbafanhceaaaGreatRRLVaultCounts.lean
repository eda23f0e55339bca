/-
  The law VaultCounts: for all commits, of bulk at most 1048576 together, it answers true. Condition: that bulk (the second form of the statement).
-/
import Derived.Test.YtggbbafanhceaaaGreatRRL46
set_option maxRecDepth 100000
set_option maxHeartbeats 8000000
set_option linter.all false
namespace Go.Proofs.YtggbbafanhceaaaGreatRR
section
open Go.ChangeShapes Go.WideShapes Go.ChangeAt Go.RowKit
theorem Tryz.own:ownKnob Tryz.prog.godebug=none:=by kernel_rfl
theorem Tryz.laidOut:laidOutB Tryz.prog=true:=by kernel_rfl
theorem A3x(os:Os)(started:os.Started)(H:Type)(enc:TypeId × Value→H)(F:Stop.Interp) :
  ReturnsInHanded {} Tryz.checked os 4 .any ((Rows.OpenSpec.upto Rows.vaultCountsSpec).pre6 enc Tryz.prog Tryz.f4 Rows.vaultCountsUptoRow.domain false) (((Rows.OpenSpec.upto Rows.vaultCountsSpec).at F).post enc Tryz.prog Tryz.f4 false true false false):=by
 refine returnsInHanded_of_cond (C:=Tryz.checked) (s:=Rows.OpenSpec.upto Rows.vaultCountsSpec) (k:=Rows.uptoSmall) rfl Tryz.own started G8 Tryz.func4
  (OpenSpec.witness (enc:=enc) (C:=Tryz.checked) (s:=Rows.OpenSpec.upto Rows.vaultCountsSpec) (k:=Rows.uptoSmall) rfl false ⟨#[],#[.slice none 0 0],[]⟩ 8 G8 G8 G8
   (x:=([.nil],[],[])) G8 rfl G8) ?_
 intro W base args ds gs before hval0 hW _ hk _
 have hval:∀(j:Nat) t v,Tryz.f4.params[j]?=some t→args[j]?=some v→Value.okWide Tryz.prog W .any base t v:=hval0
 have hW':=hW
 have hlt:=hW.lt
 obtain⟨p,q,hA0,hV,rfl,hfz,hnd⟩:=hW
 obtain⟨rfl,rfl⟩:=trodVars_none hV
 have hlt':∀x∈p,x.block<W.heap.size:=fun x hx=>hlt x (by simp[hx])
 have hA:DataW.TrodAll enc Tryz.prog W 0 (fun _=>true) true Tryz.f4.params.toList args.toList ds p:=hA0
 have hA1:=hA
 rw[Tryz.params4] at hA hval
 obtain⟨v0,d0,rfl,rfl,h0⟩:=trodAll_one hA
 obtain⟨ls,hls,hsum⟩:=open_lls (okWide_slice Tryz.underlying26 (hval 0 _ v0 rfl rfl)) h0
 have hb:Rows.uptoBulk d0≤1048576:=by
  have h:=of_decide_eq_true hk
  simp only[A4S,Rows.uptoBulkAll] at h
  omega
 refine(vaultCounts_any ls (A4T hsum hb) v0 W hls).mono fun e W' ⟨he,hB⟩=>?_
 have ht:∀t∈Tryz.f4.params.toList,Tryz.prog.readableRec t=true∧t<Tryz.prog.types.size:=by
  intro t h
  have h2:Tryz.f4.params.toList.all (fun t=>Tryz.prog.readableRec t && decide (t<Tryz.prog.types.size))=true:=by kernel_rfl
  have:=A5p.1 h2 t h
  simpa using this
 refine⟨_,he,[d0],[],p++[],[],p,[],hW',?_,?_,rfl,hB.frame _,fun h=>by cases h⟩
 ·exact trodAll_mk1 (shut_bool Tryz.underlying4 true)
 ·exact A3r Tryz.laidOut hB _ ht _ _ _ hA1 hlt'
theorem vaultCounts_holds:Rows.VaultCountsUptoSaid :=
 OpenClaim.holds_of_cond 4 Tryz.f4 rfl rfl rfl rfl rfl rfl rfl ⟨rfl,rfl,rfl,rfl,rfl⟩ rfl rfl rfl rfl rfl G8 Tryz.func4 G8
  (of_decide_eq_true G8) (by unfold Func.isWrapper;rw[if_neg G3];exact⟨rfl,rfl⟩)
  (fun os started H enc _ F=>A3x os started H enc F)
end
end Go.Proofs.YtggbbafanhceaaaGreatRR
