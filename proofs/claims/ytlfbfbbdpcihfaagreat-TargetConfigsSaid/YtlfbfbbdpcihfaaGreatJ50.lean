/- Laws that the claim uses. No condition of their own. -/
import Derived.Test.YtlfbfbbdpcihfaaGreatJ30
set_option maxRecDepth 100000
set_option maxHeartbeats 8000000
set_option linter.all false
namespace Go.Proofs.YtlfbfbbdpcihfaaGreat
section
open Go.ChangeShapes Go.WideShapes Go.ChangeAt Go.RowKit
attribute [local irreducible] wpList wpListIn Oper.quietAt wpM
open PK (okI cfgC)
theorem pairs_mem{l:List Sx}{i k:Nat}{s:Sx}(hi:i<k)(h:l[i]?=some s):(s.1,s.2.1)∈pairsK l k:=by
 unfold pairsK
 rw[List.mem_reverse]
 exact A3C.2 ⟨s,A4d (i:=i) (by rw[A4f];rw[if_pos hi];exact h),rfl⟩
theorem pairs_not{l:List Sx}{k:Nat}{p:Int × Int}(hn:∀i s,i<k->l[i]?=some s->(s.1,s.2.1)≠p):p∉pairsK l k:=by
 intro hm
 unfold pairsK at hm
 rw[List.mem_reverse] at hm
 obtain⟨s,hs,rfl⟩:=A3C.1 hm
 obtain⟨i,hi⟩:=A5m hs
 rw[A4f] at hi
 split at hi
 ·exact hn i s (by assumption) hi rfl
 ·cases hi
theorem nine_or (p1 p2 p3 p4 p5 p6 p7 p8 : Prop) : p1 ∨ (¬ p1 ∧ p2) ∨ (¬ p1 ∧ ¬ p2 ∧ p3) ∨ (¬ p1 ∧ ¬ p2 ∧ ¬ p3 ∧ p4) ∨ (¬ p1 ∧ ¬ p2 ∧ ¬ p3 ∧ ¬ p4 ∧ p5) ∨ (¬ p1 ∧ ¬ p2 ∧ ¬ p3 ∧ ¬ p4 ∧ ¬ p5 ∧ p6) ∨ (¬ p1 ∧ ¬ p2 ∧ ¬ p3 ∧ ¬ p4 ∧ ¬ p5 ∧ ¬ p6 ∧ p7) ∨ (¬ p1 ∧ ¬ p2 ∧ ¬ p3 ∧ ¬ p4 ∧ ¬ p5 ∧ ¬ p6 ∧ ¬ p7 ∧ p8) ∨ (¬ p1 ∧ ¬ p2 ∧ ¬ p3 ∧ ¬ p4 ∧ ¬ p5 ∧ ¬ p6 ∧ ¬ p7 ∧ ¬ p8) := by
  by_cases h1 : p1
  · exact .inl h1
  refine .inr ?_
  by_cases h2 : p2
  · exact .inl ⟨h1, h2⟩
  refine .inr ?_
  by_cases h3 : p3
  · exact .inl ⟨h1, h2, h3⟩
  refine .inr ?_
  by_cases h4 : p4
  · exact .inl ⟨h1, h2, h3, h4⟩
  refine .inr ?_
  by_cases h5 : p5
  · exact .inl ⟨h1, h2, h3, h4, h5⟩
  refine .inr ?_
  by_cases h6 : p6
  · exact .inl ⟨h1, h2, h3, h4, h5, h6⟩
  refine .inr ?_
  by_cases h7 : p7
  · exact .inl ⟨h1, h2, h3, h4, h5, h6, h7⟩
  refine .inr ?_
  by_cases h8 : p8
  · exact .inl ⟨h1, h2, h3, h4, h5, h6, h7, h8⟩
  exact .inr ⟨h1, h2, h3, h4, h5, h6, h7, h8⟩
theorem refgood_any(C:Cf)(hl:C.secs.length<=1000)(v:Value)(w0:World)(hv:CfgAt w0 v C) :
  Calls Tryz.prog 18 #[v] w0 fun e w'=>e=.returned (.bool (goodC C))/\Below w0.heap.size w0 w':=by
 obtain⟨sv,mv,dv,rfl,hsv,hmv,hdv,r1,r2,r3,r4,r5,r6⟩:=hv
 have hS:=St.start w0
 unfold maxLen at r4 r5 r6
 obtain⟨gn,hgn⟩:∃g,(!numsOk C)=g:=⟨_,rfl⟩
 obtain⟨p1,c1,rfl,_⟩:=id hmv.slice
 obtain⟨p2,c2,rfl,hc2,hp2,hcell2⟩:=id hdv
 obtain⟨vs,hvs,p3,c3,hsl,hc3,hp3,hcell⟩:=hsv
 subst hsl
 go_enter Tryz.func18,Tryz.ntmps18
 go_upto_region 1 with fail
 have hS1:=hS.alloc (cfgC C (.slice p3 C.secs.length c3) (.slice p1 C.master.length c1) (.slice p2 C.seeds.length c2)) 26
 unfold cfgC at hS1
 clear hS
 go_cut [59] (fun u59 wx=>u59=.bool gn/\St w0 wx [(w0.heap.size,cfgC C (.slice p3 C.secs.length c3) (.slice p1 C.master.length c1) (.slice p2 C.seeds.length c2),26)])
 case first =>
  have hS:=hS1
  clear hS1
  by_cases h1:C.n<1
  ·as_aux_lemma =>
   obtain rfl:gn=true:=by rw[<-hgn];unfold numsOk;simp only[A4F,A4R,decide_eq_false_iff_not];omega
   refine Zdsm ?_;show _
   go_meet
   exact⟨rfl,hS⟩
  by_cases h2:3<C.n
  ·as_aux_lemma =>
   obtain rfl:gn=true:=by rw[<-hgn];unfold numsOk;simp only[A4F,A4R,decide_eq_false_iff_not];omega
   refine Zdsm ?_;show _
   go_meet
   exact⟨rfl,hS⟩
  by_cases h3:C.q<1
  ·as_aux_lemma =>
   obtain rfl:gn=true:=by rw[<-hgn];unfold numsOk;simp only[A4F,A4R,decide_eq_false_iff_not];omega
   refine Zdsm ?_;show _
   go_meet
   exact⟨rfl,hS⟩
  by_cases h4:8<C.q
  ·as_aux_lemma =>
   obtain rfl:gn=true:=by rw[<-hgn];unfold numsOk;simp only[A4F,A4R,decide_eq_false_iff_not];omega
   refine Zdsm ?_;show _
   go_meet
   exact⟨rfl,hS⟩
  by_cases h5:C.k<1
  ·as_aux_lemma =>
   obtain rfl:gn=true:=by rw[<-hgn];unfold numsOk;simp only[A4F,A4R,decide_eq_false_iff_not];omega
   refine Zdsm ?_;show _
   go_meet
   exact⟨rfl,hS⟩
  by_cases h6:8<C.k
  ·as_aux_lemma =>
   obtain rfl:gn=true:=by rw[<-hgn];unfold numsOk;simp only[A4F,A4R,decide_eq_false_iff_not];omega
   refine Zdsm ?_;show _
   go_meet
   exact⟨rfl,hS⟩
  by_cases h7:(C.master.length:Int)<16
  ·as_aux_lemma =>
   obtain rfl:gn=true:=by rw[<-hgn];unfold numsOk;simp only[A4F,A4R,decide_eq_false_iff_not];omega
   refine Zdsm ?_;show _
   go_meet
   exact⟨rfl,hS⟩
  by_cases h8:64<(C.master.length:Int)
  ·as_aux_lemma =>
   obtain rfl:gn=true:=by rw[<-hgn];unfold numsOk;simp only[A4F,A4R,decide_eq_false_iff_not];omega
   refine Zdsm ?_;show _
   go_meet
   exact⟨rfl,hS⟩
  by_cases h9:¬(C.seeds.length:Int)=C.n
  ·as_aux_lemma =>
   obtain rfl:gn=true:=by rw[<-hgn];unfold numsOk;simp only[A4F,A4R,decide_eq_false_iff_not];omega
   refine Zdsm ?_;show _
   go_meet
   exact⟨rfl,hS⟩
  by_cases h10:9<(C.secs.length:Int)
  ·as_aux_lemma =>
   obtain rfl:gn=true:=by rw[<-hgn];unfold numsOk;simp only[A4F,A4R,decide_eq_false_iff_not];omega
   refine Zdsm ?_;show _
   go_meet
   exact⟨rfl,hS⟩
  obtain rfl:gn=false:=by rw[<-hgn];unfold numsOk;simp only[Bool.not_eq_false',A3A,decide_eq_true_eq];omega
  refine Zdsm ?_;show _
  go_meet
  exact⟨rfl,hS⟩
 case rest =>
  clear hS1
  obtain⟨rfl,hS⟩:=hcut
  unfold cfgC at hS
  cases gn
  ·have hg0:goodK C 0=true:=by unfold goodK;simpa using hgn
   clear hgn hcell2
   refine Zdsm ?_;intro _ _
   go_loopw [3] (fun u3 wr=>∃k:Nat,k<=C.secs.length/\u3=.int .i64 (k:Int)/\goodK C k=true/\St w0 wr [(w0.heap.size,#[.int .i64 C.n,.int .i64 C.q,.int .i64 C.k,.slice p3 C.secs.length c3,.slice p1 C.master.length c1,.slice p2 C.seeds.length c2],26)]) (fun u3 _=>C.secs.length - (intOf u3).toNat)
   case atStart=>exact⟨0,by omega,rfl,hg0,hS⟩
   case round =>
    clear hS
    obtain⟨k,hk,rfl,hgk,hS⟩:=hrel
    by_cases hlt:k<C.secs.length
    ·obtain⟨⟨a,m,x,y⟩,hx⟩:∃s,C.secs[k]?=some s:=⟨_,A3p hlt⟩
     obtain⟨b0,o0,cs,ty,fr,rfl,hb,hcc⟩:=hcell (by intro e;rw[e] at hlt;simp at hlt)
     obtain⟨sv,tv,hsv,hbx,hby,ra,rm,lx,ly⟩:=hvs k a m x y hx
     obtain⟨d1,d2,d3,d4⟩:=hcc k a m x y sv tv hx hsv
     have hsz:o0+k*4+4<=csz cs:=by rw[H5];have:=(A3y.1 d4).1;omega
     have hcu4:cut cs (o0+k*4) 4=#[.int .i64 a,.int .i64 m,sv,tv]:=A3c d1 d2 d3 d4
     obtain⟨px,cx,rfl,_⟩:=hbx.slice
     obtain⟨py,cy,rfl,_⟩:=hby.slice
     have hnx:=pairsK_next hx
     dsimp only at hnx
     have hgs:goodK C (k+1)=(goodK C k && secOk C k):=rfl
     have hbad:secOk C k=false->goodC C=false:=goodC_bad hlt
     unfold secOk at hgs hbad
     rw[hx] at hgs hbad
     dsimp only at hgs hbad
     rw[hnx] at hgs hbad
     have hor := nine_or (a < 0) (C.n ≤ a) (m < 0) (2 < m) ((x.length : Int) < 1) (64 < (x.length : Int)) ((y.length : Int) < 1) (64 < (y.length : Int))
     rcases hor with h1|⟨h1,h2⟩|⟨h1,h2,h3⟩|⟨h1,h2,h3,h4⟩|⟨h1,h2,h3,h4,h5⟩|⟨h1,h2,h3,h4,h5,h6⟩|⟨h1,h2,h3,h4,h5,h6,h7⟩|⟨h1,h2,h3,h4,h5,h6,h7,h8⟩|⟨h1,h2,h3,h4,h5,h6,h7,h8⟩
     rotate_right
     ·obtain⟨z1,hz1⟩:∃q:Prop,q=(¬a<0/\¬C.n<=a):=⟨_,rfl⟩
      refine Zxsm ?_;clear hS;intro _ _ _ b w w hS
      have hlk:(k:Int)<(C.secs.length:Int):=by omega
      go_loopw [5] (fun u5 wr=>∃j:Nat,j<=k/\u5=.int .i64 (j:Int)/\(∀i s,i<j->C.secs[i]?=some s->(s.1,s.2.1)≠(a,m))/\St w0 wr [(b,#[.int .i64 a,.int .i64 m,.slice px x.length cx,.slice py y.length cy],71),(w0.heap.size,#[.int .i64 C.n,.int .i64 C.q,.int .i64 C.k,.slice (some ⟨b0,o0,none⟩) C.secs.length c3,.slice p1 C.master.length c1,.slice p2 C.seeds.length c2],26)]) (fun u5 _=>k - (intOf u5).toNat)
      case atStart=>exact⟨0,by omega,rfl,fun i s h=>absurd h E9,hS⟩
      case round =>
       clear hS
       obtain⟨j,hj,rfl,hno,hS⟩:=hrel
       by_cases hjk:j<k
       ·obtain⟨⟨a2,m2,x2,y2⟩,hx2⟩:∃s,C.secs[j]?=some s:=⟨_,A3p E9⟩
        obtain⟨sv2,tv2,hsv2,hbx2,hby2,ra2,rm2,lx2,ly2⟩:=hvs j a2 m2 x2 y2 hx2
        obtain⟨e1,e2,e3,e4⟩:=hcc j a2 m2 x2 y2 sv2 tv2 hx2 hsv2
        have hsz2:o0+j*4+4<=csz cs:=by rw[H5];have:=(A3y.1 e4).1;omega
        have hnext:(a2,m2)≠(a,m)->∀i s,i<j+1->C.secs[i]?=some s->(s.1,s.2.1)≠(a,m):=fun hne i s hi hs=>by
         by_cases hij:i=j
         ·subst hij;rw[hx2] at hs;cases hs;exact hne
         ·exact hno i s E9 hs
        by_cases q1:a2=a
        ·by_cases q2:m2=m
         ·as_aux_lemma =>
          have hin:=pairs_mem hjk hx2
          dsimp only at hin
          rw[q1,q2] at hin
          refine Zdsm ?_;intro _ _ _ _ _
          refine F6 20 E7 E7 ?_
          dsimp only[List.take,List.drop]
          iterate 20 (first|refine ZQ ?_|refine ZUs ?_|refine ZQa ?_|refine ZXs ?_)
          refine Zn own_st hS ?_
          clear hS
          intro pB w hS
          try dsimp only
          refine Zdsm ?_;show _
          go_ret
          exact⟨by rw[hbad (by rw[List.count_cons_self];have:=List.count_pos_iff.2 hin;simp;omega)];rfl,hS.below⟩
         ·as_aux_lemma =>
          refine Zdsm ?_;intro _ _ _ _ _
          refine F6 20 E7 E7 ?_
          dsimp only[List.take,List.drop]
          iterate 20 (first|refine ZQ ?_|refine ZUs ?_|refine ZQa ?_|refine ZXs ?_)
          refine Zn own_st hS ?_
          clear hS
          intro pB w hS
          try dsimp only
          refine Zdsm ?_;show _
          go_roundw
          case rel=>exact⟨j+1,by omega,by push_cast;rfl,hnext (fun e=>q2 (congrArg Prod.snd e)),hS⟩
          case measure=>first|(simp[intOf];done)|(simp[intOf];omega)
        ·as_aux_lemma =>
         refine Zdsm ?_;intro _ _ _ _ _
         refine F6 20 E7 E7 ?_
         dsimp only[List.take,List.drop]
         iterate 20 (first|refine ZQ ?_|refine ZUs ?_|refine ZQa ?_|refine ZXs ?_)
         refine Zn own_st hS ?_
         clear hS
         intro pB w hS
         try dsimp only
         refine Zdsm ?_;show _
         go_roundw
         case rel=>exact⟨j+1,by omega,by push_cast;rfl,hnext (fun e=>q1 (congrArg Prod.fst e)),hS⟩
         case measure=>first|(simp[intOf];done)|(simp[intOf];omega)
       ·as_aux_lemma =>
        obtain rfl:j=k:=by omega
        have hn:=pairs_not hno
        refine Zdsm ?_;intro _ _ _
        go_roundw
        case rel=>exact⟨j+1,by omega,by push_cast;rfl,by rw[hgs,hgk,List.count_cons_self,List.count_eq_zero.2 hn];simp;omega,own_st.sub hS (fun x hx=>A3l _ hx) F0⟩
        case measure=>first|(simp[intOf];done)|(simp[intOf];omega)
     all_goals as_aux_lemma =>
      have hgc:=hbad (by simp only[A4R,decide_eq_false_iff_not];omega)
      repeat' (first|refine Zbsm ?_|(refine Zll ?_;first|((first|refine I8 stp_list own_st hS ?_ (hv:=by rw[A3r];exact hcu4)|refine G3 stp_list (by first|exact((hS).far hb).1) ?_ (hv:=by first|rfl|exact bvs_getLA|(rw[A3r];exact hcu4))|refine J0 stp_list own_st hS ?_ (hv:=by first|(exact hcu4)|rfl)|refine K3 stp_list (by first|exact((hS).far hb).1) ?_ (hv:=by first|exact G7 _ _ A6|(exact hcu4)|rfl)|refine g_field1 stp_list ?_ (hv':=by first|exact bvs_getLA|(rw[A3r];exact hcu4)))<;>refine F2 ?_))|(refine Zks ?_;clear hS;intro b w hS)|(refine Ztsm ?_;clear hS;intro w hS)|(refine Zc ?_ ?_<;>intro hc)|(refine Zg ?_;first|go_step|go_step3|refine Zr ?_)|fail)
      go_ret
      exact⟨by rw[hgc];rfl,hS.below⟩
    ·as_aux_lemma =>
     obtain rfl:k=C.secs.length:=by omega
     refine Zdsm ?_;intro _ _ _
     go_ret
     exact⟨by rw[show goodC C=true from hgk];rfl,hS.below⟩
  ·have hg0:goodC C=false:=by
    cases hg:goodC C
    ·rfl
    ·have h1:goodK C 0=true:=A2t C.secs.length (by rw[A3x];exact hg)
     unfold goodK at h1
     rw[h1] at hgn
     cases hgn
   refine Zdsm ?_;show _
   go_ret
   exact⟨by rw[hg0];rfl,hS.below⟩
end
end Go.Proofs.YtlfbfbbdpcihfaaGreat
