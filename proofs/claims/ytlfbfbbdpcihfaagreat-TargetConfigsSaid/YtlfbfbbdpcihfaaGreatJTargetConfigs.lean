/-
  The law TargetConfigs: for every configuration, event and number it answers true. No condition.
-/
import Derived.Test.YtlfbfbbdpcihfaaGreatJ51
set_option maxRecDepth 100000
set_option maxHeartbeats 8000000
set_option linter.all false
namespace Go.Proofs.YtlfbfbbdpcihfaaGreat
section
open Go.ChangeShapes Go.WideShapes Go.ChangeAt Go.RowKit
theorem Tryz.own:ownKnob Tryz.prog.godebug=none:=by kernel_rfl
theorem Tryz.laidOut:laidOutB Tryz.prog=true:=by kernel_rfl
theorem A1u(os:Os)(started:os.Started)(H:Type)(enc:TypeId × Value->H) :
  ReturnsInHanded {} Tryz.checked os 3 .any (Rows.targetConfigsSpec.pre6 enc Tryz.prog Tryz.f3 Rows.targetConfigsRow.domain false) (Rows.targetConfigsSpec.post enc Tryz.prog Tryz.f3 false true false false):=by
 refine law_lift (C:=Tryz.checked) Tryz.own started E7 Tryz.func3
  (ChangeSpec.witness6 (enc:=enc) (C:=Tryz.checked) false ⟨#[],#[.agg #[.int .i64 0,.int .i64 0,.int .i64 0,.slice none 0 0,.slice none 0 0,.slice none 0 0],.agg #[.int .i64 0,.int .i64 0,.int .i64 0,.slice none 0 0,.int .i64 0,.slice none 0 0],.int .i64 0],[]⟩ 8 E7 E7 E7 E7)
  rfl E7 Tryz.underlying4 (fun ds h=>by match ds,h with | [a,b,c],_=>exact⟨rfl,rfl,rfl⟩) Tryz.laidOut E7 ?_
 intro W base args ds p hval0 hA0 hlt hsz0
 have hval:∀(j:Nat) t v,Tryz.f3.params[j]?=some t->args[j]?=some v->Value.okWide Tryz.prog W .any base t v:=hval0
 have hA:DataW.TrodAll enc Tryz.prog W 0 (fun _=>true) true Tryz.f3.params.toList args.toList ds p:=hA0
 have hsz:(DataW.weightsEach Tryz.prog Tryz.f3.params.toList ds).all (· <= reachBytes)=true:=hsz0
 rw[Tryz.params3] at hA hval hsz
 obtain⟨v0,v1,v2,d0,d1,d2,p0,p1,p2,rfl,rfl,rfl,h0,h1,h2⟩:=trodAll_three hA
 obtain⟨x2,rfl,rfl,rfl,wx2⟩:=open_int Tryz.underlying3 (hval 2 _ v2 rfl rfl) h2
 obtain⟨C,hC⟩:=open_cfg (hval 0 _ v0 rfl rfl) h0
 obtain⟨k,t,i,n,bw,kw,hb,hk,rfl⟩:=open_evt (hval 1 _ v1 rfl rfl) h1
 exact A2Q C k t i n x2 bw kw hb hk v0 W hC
theorem A2i:joinedFacts Tryz.prog 3 Tryz.f3 Rows.targetConfigsSpec Rows.targetConfigsRow=true:=by
 unfold joinedFacts
 simp only[A3A]
 repeat' apply And.intro
 all_goals as_aux_lemma=>kernel_rfl
theorem targetConfigs_holds:Rows.TargetConfigsSaid :=
 OpenClaim.holds_of_wide 3 Tryz.f3 rfl rfl rfl rfl rfl rfl rfl ⟨rfl,rfl,rfl,rfl,rfl⟩ rfl rfl rfl rfl rfl E7 Tryz.func3 A2i
  (of_decide_eq_true E7) (by unfold Func.isWrapper;rw[if_neg (by decide +kernel)];exact⟨rfl,rfl⟩)
  (fun os started H enc _=>A1u os started H enc)
end
end Go.Proofs.YtlfbfbbdpcihfaaGreat
