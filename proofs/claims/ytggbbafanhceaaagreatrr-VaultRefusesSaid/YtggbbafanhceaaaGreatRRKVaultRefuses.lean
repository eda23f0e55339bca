/-
  The law VaultRefuses: for every five numbers it answers true. No condition.
-/
import Derived.Test.YtggbbafanhceaaaGreatRRK49
set_option maxRecDepth 100000
set_option maxHeartbeats 8000000
set_option linter.all false
namespace Go.Proofs.YtggbbafanhceaaaGreatRR
section
open Go.ChangeShapes Go.WideShapes Go.ChangeAt Go.RowKit
attribute [local irreducible] wpList wpListIn Oper.quietAt wpM
section
attribute [local irreducible] shaL tagL
def ZeroM(Y:List Blk)(v:Value)(n:Nat):Prop:=∃b,v=.slice (some ⟨b,0,none⟩) n n∧(b,bvs (zs n),5)∈Y
theorem ZeroM.bytes{Y:List Blk}{v:Value}{n:Nat}(h:ZeroM Y v n):BytesM Y v (zs n):=by
 obtain⟨b,rfl,h2⟩:=h
 exact A0V (zs_len n) h2
theorem args_fo{rd:Rdr}(hrd:RdCel rd){wA:World}{g:G4}{S K Fr:Nat}(hS:S<300)(hK:K<70)(hFr:Fr<200)(x1 x2:Int)(h2:i64R x2) :
  ∃(ef eg:Value)(Q:List UInt8→List Int→Prop),
   (∀w Y kv fv,Dk rd wA g Fon (S+1) (zs (128*(S+1))) [] [0,0] w Y→ZeroM Y kv K→ZeroM Y fv Fr→Calls Tryz.prog 19 #[.pointer (some ⟨g.P,0,none⟩),.int .i64 x1,.int .i64 x2,kv,fv] w fun e w'=>∃Y' su2 co2,e=.returned ef∧(∀x∈Y,x∈Y')∧Dk rd wA g Fon (S+1) su2 [] co2 w' Y'∧Q su2 co2) ∧
   (∀w Y kv su2 co2,Q su2 co2→Dk rd wA g Fon (S+1) su2 [] co2 w Y→ZeroM Y kv K→Calls Tryz.prog 20 #[.pointer (some ⟨g.P,0,none⟩),.int .i64 x1,.int .i64 x2,kv] w fun e w'=>∃(p:Option Addr)(su3:List UInt8)(co3:List Int)(Y':List Blk),e=.returned (.tuple #[.pointer p,eg])∧Dk rd wA g Fon (S+1) su3 [] co3 w' Y') ∧
   ((x1<0∧ef=errE 1∧eg=errE 1)∨(2≤x1∧ef=errE 1∧eg=errE 1)∨((0≤x1∧x1<2)∧x2<0∧ef=errE 1∧eg=errE 1)∨((0≤x1∧x1<2)∧0≤x2∧(S:Int)+1 - 117<x2∧ef=errE 1∧eg=errE 1) ∨
    ((0≤x1∧x1<2)∧0≤x2∧x2≤(S:Int)+1 - 117∧((¬K=32∧ef=errE 3∧eg=errE 3)∨(K=32∧¬Fr=128∧ef=errE 3∧eg=errE 6)∨(K=32∧Fr=128∧ef=.nilIface∧eg=.nilIface)))):=by
 by_cases hf:fitsP (S+1) [0,0] x1 x2=true
 ·have hf2:=hf
  unfold fitsP at hf2
  simp only[A4N,decide_eq_true_eq,A4E,A4T] at hf2
  obtain⟨⟨⟨a1,a2⟩,a3⟩,a4⟩:=hf2
  obtain⟨b,rfl⟩:=Int.eq_ofNat_of_zero_le a3
  have hcn:0≤x1∧x1<(([0,0]:List Int).length:Int):=⟨a1,by simp only[A4E,A4T];omega⟩
  have hb:b+117≤S+1:=by push_cast at a4;omega
  have hc0:([0,0]:List Int).getD x1.toNat 0=0:=by
   have:x1.toNat=0∨x1.toNat=1:=by omega
   rcases this with h|h<;>rw[h]<;>rfl
  by_cases hk:K=32
  ·subst hk
   by_cases hr:Fr=128
   ·subst hr
    refine⟨.nilIface,.nilIface,fun su co=>∃M,Inv su (S+1) b (secH (zs 32)) (secW (zs 32)) 1 M (fun _=>zs 1024) (fun k=>sl (zs 128) (64*k) 64)∧StartOk su b (secH (zs 32)) (secL (zs 32)) 1 1∧co=([0,0]:List Int).set x1.toNat 1,fun w Y kv fv h h1 h2=>?_,fun w Y kv su2 co2 hQ h h1=>?_,.inr (.inr (.inr (.inr ⟨⟨a1,by omega⟩,a3,by push_cast at a4;omega,.inr (.inr ⟨rfl,rfl,rfl,rfl⟩)⟩)))⟩
    ·refine(format_ok hrd h hcn hb (zs_len 32) h1.bytes (zs_len 128) h2.bytes hc0).mono ?_
     rintro e w' ⟨L',rfl,hL,hD⟩
     obtain⟨M,hI,hst⟩:=made_inv (su:=zs (128*(S+1))) (N:=S+1) (b:=b) (key:=zs 32) (fr:=zs 128) (zs_len _) hb (zs_len 128) log_blank
     exact⟨L',_,_,rfl,hL,hD,M,hI,hst,rfl⟩
    ·obtain⟨M,hI,hst,rfl⟩:=hQ
     have hlc:x1.toNat<([0,0]:List Int).length:=by simp only[A4E,A4T];omega
     refine(open_ok hrd h (by rw[A5F];exact hcn) (zs_len 32) h1.bytes 1 1 H8 (getD_set hlc) hI (.inl rfl) hst (fun h=>absurd h H8)).mono ?_
     rintro e w' ⟨V,su',hv,lv,kv',M',tv,Lx,rfl,hO,_⟩
     exact⟨_,_,_,_,rfl,hO.dk⟩
   ·refine⟨errE 3,errE 6,fun su co=>su=zs (128*(S+1))∧co=[0,0],fun w Y kv fv h h1 h2=>?_,fun w Y kv su2 co2 hQ h h1=>?_,.inr (.inr (.inr (.inr ⟨⟨a1,by omega⟩,a3,by push_cast at a4;omega,.inr (.inl ⟨rfl,hr,rfl,rfl⟩)⟩)))⟩
    ·obtain⟨bk,rfl,_⟩:=h1
     obtain⟨bf,rfl,_⟩:=h2
     exact(format_key h x1 (b:Int) (by assumption) hf _ _ _ _ _ _ (fun hh=>hr hh.2) ⟨by omega,by omega⟩).mono fun e w' ⟨e1,e2⟩=>⟨Y,_,_,e1,fun x hx=>hx,e2,rfl,rfl⟩
    ·obtain⟨rfl,rfl⟩:=hQ
     refine(open_blank hrd h hcn hb (zs_len 32) h1.bytes hc0 (start4 (celX_zs H8) (celX_zs H8) (celX_zs H8) head_blank log_blank)).mono ?_
     rintro e w' ⟨L',rfl,_,hD⟩
     exact⟨none,_,_,L',rfl,hD⟩
  ·refine⟨errE 3,errE 3,fun su co=>su=zs (128*(S+1))∧co=[0,0],fun w Y kv fv h h1 h2=>?_,fun w Y kv su2 co2 hQ h h1=>?_,.inr (.inr (.inr (.inr ⟨⟨a1,by omega⟩,a3,by push_cast at a4;omega,.inl ⟨hk,rfl,rfl⟩⟩)))⟩
   ·obtain⟨bk,rfl,_⟩:=h1
    obtain⟨bf,rfl,_⟩:=h2
    exact(format_key h x1 (b:Int) (by assumption) hf _ _ _ _ _ _ (fun hh=>hk hh.1) ⟨by omega,by omega⟩).mono fun e w' ⟨e1,e2⟩=>⟨Y,_,_,e1,fun x hx=>hx,e2,rfl,rfl⟩
   ·obtain⟨rfl,rfl⟩:=hQ
    obtain⟨bk,rfl,_⟩:=h1
    exact(open_key h x1 (b:Int) (by assumption) hf _ _ _ hk H8).mono fun e w' ⟨e1,e2⟩=>⟨none,_,_,Y,e1,e2⟩
 ·have hf1:fitsP (S+1) [0,0] x1 x2=false:=by simpa using hf
  refine⟨errE 1,errE 1,fun su co=>su=zs (128*(S+1))∧co=[0,0],fun w Y kv fv h h1 _=>?_,fun w Y kv su2 co2 hQ h h1=>?_,?_⟩
  ·exact(format_range h x1 x2 h2 hf1 kv fv).mono fun e w' ⟨e1,e2⟩=>⟨Y,_,_,e1,fun x hx=>hx,e2,rfl,rfl⟩
  ·obtain⟨rfl,rfl⟩:=hQ
   exact(open_range h x1 x2 h2 hf1 kv).mono fun e w' ⟨e1,e2⟩=>⟨none,_,_,Y,e1,e2⟩
  ·by_cases c1:x1<0
   ·exact .inl ⟨c1,rfl,rfl⟩
   by_cases c2:2≤x1
   ·exact .inr (.inl ⟨c2,rfl,rfl⟩)
   by_cases c3:x2<0
   ·exact .inr (.inr (.inl ⟨⟨by omega,by omega⟩,c3,rfl,rfl⟩))
   ·refine .inr (.inr (.inr (.inl ⟨⟨by omega,by omega⟩,by omega,?_,rfl,rfl⟩)))
    unfold fitsP at hf1
    rw[decide_eq_true (by simp only[A4E,A4T];omega),decide_eq_true H8] at hf1
    simp only[Bool.true_and,decide_eq_false_iff_not] at hf1
    push_cast at hf1
    omega
end
section
attribute [local irreducible] shaL tagL
theorem args_any(x0 x1 x2 x3 x4:Int)(h1:i64R x1)(h2:i64R x2)(w0:World):Calls Tryz.prog 6 #[.int .i64 x0,.int .i64 x1,.int .i64 x2,.int .i64 x3,.int .i64 x4] w0 fun e w'=>e=.returned (.bool true)∧Below w0.heap.size w0 w':=by
 obtain⟨rd,hrd⟩:=rdCel_exists
 obtain⟨A0,hA0⟩:∃M:Nat,(x0 % 18446744073709551616).toNat=M:=⟨_,rfl⟩
 obtain⟨A3,hA3⟩:∃M:Nat,(x3 % 18446744073709551616).toNat=M:=⟨_,rfl⟩
 obtain⟨A4,hA4⟩:∃M:Nat,(x4 % 18446744073709551616).toNat=M:=⟨_,rfl⟩
 have hr0:((A0:Nat):Int) % 300=((A0 % 300:Nat):Int):=(Int.natCast_emod A0 300).symm
 have hr3:((A3:Nat):Int) % 70=((A3 % 70:Nat):Int):=(Int.natCast_emod A3 70).symm
 have hr4:((A4:Nat):Int) % 200=((A4 % 200:Nat):Int):=(Int.natCast_emod A4 200).symm
 have hS3:A0 % 300<300:=Nat.mod_lt _ H7
 have hK7:A3 % 70<70:=Nat.mod_lt _ H7
 have hF2:A4 % 200<200:=Nat.mod_lt _ H7
 generalize A0 % 300=S at hr0 hS3
 generalize A3 % 70=K at hr3 hK7
 generalize A4 % 200=Fr at hr4 hF2
 replace hA0:=hid hA0
 replace hA3:=hid hA3
 replace hA4:=hid hA4
 replace hr0:=hid hr0
 replace hr3:=hid hr3
 replace hr4:=hid hr4
 have h1':=h1
 have h2':=h2
 unfold i64R at h1' h2'
 have hS:=St.start w0
 have hnew:=fun w h=>new_any (rd:=rd) (w00:=w) (w0:=w) (L:=[]) (S+1) 2 ⟨by omega,by omega⟩ ⟨by omega,by omega⟩ h
 rw[show ((S+1:Nat):Int)=1+(S:Int) by omega] at hnew
 go_enter Tryz.func6,Tryz.ntmps6
 repeat' (first|((with_reducible refine cons_list ?_);first|(refine J2 I2 own_st hS (alive_any _) ?_;clear hS;intro w hS;refine I3 ?_)|(refine Stp.go I2 I1 I1 (r_convV I1 I1 G6 G6 hA0.out) ?_;refine I3 ?_)|(refine Stp.go I2 I1 I1 (r_convV I1 I1 G6 G6 hA3.out) ?_;refine I3 ?_)|(refine Stp.go I2 I1 I1 (r_convV I1 I1 G6 G6 hA4.out) ?_;refine I3 ?_)|(refine Stp.go I2 I1 I1 (r_rem I1 I1 I1 ⟨Int.natCast_nonneg _,by decide⟩ hr0.out) ?_;refine I3 ?_)|(refine Stp.go I2 I1 I1 (r_rem I1 I1 I1 ⟨Int.natCast_nonneg _,by decide⟩ hr3.out) ?_;refine I3 ?_)|(refine Stp.go I2 I1 I1 (r_rem I1 I1 I1 ⟨Int.natCast_nonneg _,by decide⟩ hr4.out) ?_;refine I3 ?_))|refine Zasm ?_|(refine Zks ?_;clear hS;intro b w hS)|(refine Ztsm ?_;clear hS;intro w hS)|(refine Zc ?_ ?_<;>intro hc)|(refine Zg ?_;first|go_step|go_step3|refine Zr ?_)|fail)
 have hB:=hS.below
 generalize w=wA at hB hS ⊢
 refine J1 I2 I1 I1 I1 I1 I1 G6 (hnew _ (St.start wA)) ?_
 clear hS hnew
 rintro e w1 ⟨g,rfl,hS⟩
 refine⟨_,rfl,?_⟩
 rw[show List.replicate 2 (0:Int)=[0,0] from rfl] at hS
 obtain⟨ef,eg,Q,hFo,hOp,hcs⟩:=args_fo hrd hS3 hK7 hF2 (g:=g) (wA:=wA) x1 x2 h2
 refine I3 ?_
 rcases hcs with⟨c1,rfl,rfl⟩|⟨c1,rfl,rfl⟩|⟨⟨c1,c2⟩,c3,rfl,rfl⟩|⟨⟨c1,c2⟩,c3,c4,rfl,rfl⟩|⟨⟨c1,c2⟩,c3,c4,⟨c5,rfl,rfl⟩|⟨rfl,c6,rfl,rfl⟩|⟨rfl,rfl,rfl,rfl⟩⟩
 all_goals
  repeat' (first|refine ZaKm ?_|(refine ZkK ?_;clear hS;intro b w hS)|(refine ZtKm ?_;clear hS;intro w hS)|(refine Zc ?_ ?_<;>intro hc)|(refine Zg ?_;first|go_step|go_step3|refine Zr ?_)|fail)
  refine Y6 [0,1,2,3,4,5,6,7,8] H5 H5 ?_
  intro w hcq
  replace hS:=Own.call (own_dk) hS hcq
  clear hcq
  (first|refine Zps 0 ?_|refine Zpl 0 ?_);refine Q8 ?_
  (first|refine Zps 1 ?_|refine Zpl 1 ?_);refine Q8 ?_
  (first|refine Zps 2 ?_|refine Zpl 2 ?_);refine Q8 ?_
  (first|refine Zps 3 ?_|refine Zpl 3 ?_);refine Q8 ?_
  (first|refine Zps 5 ?_|refine Zpl 5 ?_);refine Q8 ?_
  refine A0L 4 6 H5 I1 I1 ?_ ?_
  ·repeat' (first|refine ZaKm ?_|(refine ZkK ?_;clear hS;intro b w hS)|(refine ZtKm ?_;clear hS;intro w hS)|(refine Zc ?_ ?_<;>intro hc)|(refine Zg ?_;first|go_step|go_step3|refine Zr ?_)|fail)
   refine J3 6 H5 I1 ?_
   repeat' (first|refine ZaKm ?_|(refine ZkK ?_;clear hS;intro b w hS)|(refine ZtKm ?_;clear hS;intro w hS)|(refine Zc ?_ ?_<;>intro hc)|(refine Zg ?_;first|go_step|go_step3|refine Zr ?_)|fail)
   refine J3 7 H5 I1 ?_
   repeat' (first|refine ZaKm ?_|(refine ZkK ?_;clear hS;intro b w hS)|(refine ZtKm ?_;clear hS;intro w hS)|(refine Zc ?_ ?_<;>intro hc)|(refine Zg ?_;first|go_step|go_step3|refine Zr ?_)|fail)
   refine J1 I2 I1 I1 I1 I1 I1 G6 (hFo _ _ _ _ hS ⟨_,rfl,by simp⟩ ⟨_,rfl,by simp⟩) ?_
   clear hS
   rintro e w2 ⟨Y2,su2,co2,rfl,_,hS,hQ⟩
   refine⟨_,rfl,?_⟩
   refine I3 ?_
   repeat' (first|refine ZaKm ?_|(refine ZkK ?_;clear hS;intro b w hS)|(refine ZtKm ?_;clear hS;intro w hS)|(refine Zc ?_ ?_<;>intro hc)|(refine Zg ?_;first|go_step|go_step3|refine Zr ?_)|fail)
   refine J3 8 H5 I1 ?_
   repeat' (first|refine ZaKm ?_|(refine ZkK ?_;clear hS;intro b w hS)|(refine ZtKm ?_;clear hS;intro w hS)|(refine Zc ?_ ?_<;>intro hc)|(refine Zg ?_;first|go_step|go_step3|refine Zr ?_)|fail)
   refine R6 H5 ?_
   repeat' (first|refine ZaKm ?_|(refine ZkK ?_;clear hS;intro b w hS)|(refine ZtKm ?_;clear hS;intro w hS)|(refine Zc ?_ ?_<;>intro hc)|(refine Zg ?_;first|go_step|go_step3|refine Zr ?_)|fail)
   refine J1 I2 I1 I1 I1 I1 I1 G6 (hOp _ _ _ _ _ hQ hS ⟨_,rfl,by simp⟩) ?_
   clear hS
   rintro e w3 ⟨p,su3,co3,Y3,rfl,hS⟩
   refine⟨_,rfl,?_⟩
   refine I3 ?_
   repeat' (first|refine ZaKm ?_|(refine ZkK ?_;clear hS;intro b w hS)|(refine ZtKm ?_;clear hS;intro w hS)|(refine Zc ?_ ?_<;>intro hc)|((with_reducible refine cons_list ?_);first|(refine J2 I2 own_dk hS (is_e 1 rfl _) ?_;clear hS;intro w hS;refine I3 ?_)|(refine J2 I2 own_dk hS (is_e 3 rfl _) ?_;clear hS;intro w hS;refine I3 ?_)|(refine J2 I2 own_dk hS (is_e 6 rfl _) ?_;clear hS;intro w hS;refine I3 ?_))|(refine Zg ?_;first|go_step|go_step3|refine Zr ?_)|fail)
   go_ret
   exact⟨rfl,hB.trans (hS.below.mono hB.size)⟩
  ·repeat' (first|refine ZaKm ?_|(refine ZkK ?_;clear hS;intro b w hS)|(refine ZtKm ?_;clear hS;intro w hS)|(refine Zc ?_ ?_<;>intro hc)|(refine Zg ?_;first|go_step|go_step3|refine Zr ?_)|fail)
   refine J3 4 H5 I1 ?_
   repeat' (first|refine ZaKm ?_|(refine ZkK ?_;clear hS;intro b w hS)|(refine ZtKm ?_;clear hS;intro w hS)|(refine Zc ?_ ?_<;>intro hc)|(refine Zg ?_;first|go_step|go_step3|refine Zr ?_)|fail)
   refine J3 7 H5 I1 ?_
   repeat' (first|refine ZaKm ?_|(refine ZkK ?_;clear hS;intro b w hS)|(refine ZtKm ?_;clear hS;intro w hS)|(refine Zc ?_ ?_<;>intro hc)|(refine Zg ?_;first|go_step|go_step3|refine Zr ?_)|fail)
   refine J1 I2 I1 I1 I1 I1 I1 G6 (hFo _ _ _ _ hS ⟨_,rfl,by simp⟩ ⟨_,rfl,by simp⟩) ?_
   clear hS
   rintro e w2 ⟨Y2,su2,co2,rfl,_,hS,hQ⟩
   refine⟨_,rfl,?_⟩
   refine I3 ?_
   repeat' (first|refine ZaKm ?_|(refine ZkK ?_;clear hS;intro b w hS)|(refine ZtKm ?_;clear hS;intro w hS)|(refine Zc ?_ ?_<;>intro hc)|(refine Zg ?_;first|go_step|go_step3|refine Zr ?_)|fail)
   refine J3 8 H5 I1 ?_
   repeat' (first|refine ZaKm ?_|(refine ZkK ?_;clear hS;intro b w hS)|(refine ZtKm ?_;clear hS;intro w hS)|(refine Zc ?_ ?_<;>intro hc)|(refine Zg ?_;first|go_step|go_step3|refine Zr ?_)|fail)
   refine R6 H5 ?_
   repeat' (first|refine ZaKm ?_|(refine ZkK ?_;clear hS;intro b w hS)|(refine ZtKm ?_;clear hS;intro w hS)|(refine Zc ?_ ?_<;>intro hc)|(refine Zg ?_;first|go_step|go_step3|refine Zr ?_)|fail)
   refine J1 I2 I1 I1 I1 I1 I1 G6 (hOp _ _ _ _ _ hQ hS ⟨_,rfl,by simp⟩) ?_
   clear hS
   rintro e w3 ⟨p,su3,co3,Y3,rfl,hS⟩
   refine⟨_,rfl,?_⟩
   refine I3 ?_
   repeat' (first|refine ZaKm ?_|(refine ZkK ?_;clear hS;intro b w hS)|(refine ZtKm ?_;clear hS;intro w hS)|(refine Zc ?_ ?_<;>intro hc)|((with_reducible refine cons_list ?_);first|(refine J2 I2 own_dk hS (is_e 1 rfl _) ?_;clear hS;intro w hS;refine I3 ?_)|(refine J2 I2 own_dk hS (is_e 3 rfl _) ?_;clear hS;intro w hS;refine I3 ?_)|(refine J2 I2 own_dk hS (is_e 6 rfl _) ?_;clear hS;intro w hS;refine I3 ?_))|(refine Zg ?_;first|go_step|go_step3|refine Zr ?_)|fail)
   go_ret
   exact⟨rfl,hB.trans (hS.below.mono hB.size)⟩
theorem A4i(x0 x1 x2 x3 x4:Int)(h1:i64R x1)(h2:i64R x2)(w0:World):Calls Tryz.prog 3 #[.agg #[.int .i64 x0,.int .i64 x1,.int .i64 x2,.int .i64 x3,.int .i64 x4]] w0 fun e w'=>e=.returned (.bool true)∧Below w0.heap.size w0 w':=by
 have hS:=St.start w0
 go_enter Tryz.func3,Tryz.ntmps3
 repeat' (first|refine Zasm ?_|(refine Zks ?_;clear hS;intro b w hS)|(refine Ztsm ?_;clear hS;intro w hS)|(refine Zc ?_ ?_<;>intro hc)|((with_reducible refine cons_list ?_);first|(refine J2 I2 own_st hS (args_any x0 x1 x2 x3 x4 h1 h2 _) ?_;clear hS;intro w hS;refine I3 ?_))|(refine Zg ?_;first|go_step|go_step3|refine Zr ?_)|fail)
 go_ret
 exact⟨rfl,hS.below⟩
end
end
section
open Go.ChangeShapes Go.WideShapes Go.ChangeAt Go.RowKit
open Go.ChangeShapes Go.WideShapes Go.ChangeAt Go.RowKit
theorem five_partsA{L:List Value}{a b c d e:Value}(h:L.length=5)(h0:(L.drop 0).take 1=[a])(h1:(L.drop 1).take 1=[b])(h2:(L.drop 2).take 1=[c])(h3:(L.drop 3).take 1=[d])(h4:(L.drop 4).take 1=[e]):L=[a,b,c,d,e]:=by
 match L,h with
 | [a',b',c',d',e'],_=>simp at h0 h1 h2 h3 h4;simp[h0,h1,h2,h3,h4]
theorem cells_args:Tryz.prog.cellsOf 23=5:=by kernel_rfl
theorem open_args{H:Type}{enc:TypeId × Value→H}{w W:World}{r:Reach}{b0 base:Nat}{sp:Nat→Bool}{held:Bool}{v:Value}{d:DataW H}{p:List MemPlace}
  (hv:Value.okWide Tryz.prog W r b0 23 v)(ht:DataW.Trod enc Tryz.prog w base sp held 23 v d p) :
  ∃x0 x1 x2 x3 x4:Int,i64R x1∧i64R x2∧v=.agg #[.int .i64 x0,.int .i64 x1,.int .i64 x2,.int .i64 x3,.int .i64 x4]:=by
 have hu:=Tryz.underlying23
 obtain⟨cs,rfl,hsz⟩:=okWide_struct hu hv
 rw[cells_args] at hsz
 obtain⟨fuel,hf⟩:=ht
 obtain⟨xs,n,rfl,hx,hl,hxl,hi⟩:=DataW.trod_struct hu hf
 have hxl5:xs.length=5:=hxl
 have g (i:Nat) (h:i<5):xs[i]?=some xs[i]:=A4x H8
 have h0:=(hi 0 _ rfl).trans (g 0 H8)
 have h1:=(hi 1 _ rfl).trans (g 1 H8)
 have h2:=(hi 2 _ rfl).trans (g 2 H8)
 have h3:=(hi 3 _ rfl).trans (g 3 H8)
 have h4:=(hi 4 _ rfl).trans (g 4 H8)
 obtain⟨x0,e0,_⟩:=trod_int1 Tryz.underlying3 h0
 obtain⟨x1,e1,w1⟩:=trod_int1 Tryz.underlying3 h1
 obtain⟨x2,e2,w2⟩:=trod_int1 Tryz.underlying3 h2
 obtain⟨x3,e3,_⟩:=trod_int1 Tryz.underlying3 h3
 obtain⟨x4,e4,_⟩:=trod_int1 Tryz.underlying3 h4
 refine⟨x0,x1,x2,x3,x4,i64_of w1,i64_of w2,?_⟩
 have hL:=five_partsA (L:=cs.toList) G2 e0 e1 e2 e3 e4
 rw[←Array.toArray_toList (xs:=cs),hL]
end
section
open Go.ChangeShapes Go.WideShapes Go.ChangeAt Go.RowKit
theorem Tryz.own:ownKnob Tryz.prog.godebug=none:=by kernel_rfl
theorem Tryz.laidOut:laidOutB Tryz.prog=true:=by kernel_rfl
theorem A3i(os:Os)(started:os.Started)(H:Type)(enc:TypeId × Value→H) :
  ReturnsInHanded {} Tryz.checked os 3 .any (Rows.vaultRefusesSpec.pre6 enc Tryz.prog Tryz.f3 Rows.vaultRefusesRow.domain false) (Rows.vaultRefusesSpec.post enc Tryz.prog Tryz.f3 false true false false):=by
 refine law_lift (C:=Tryz.checked) Tryz.own started H5 Tryz.func3
  (ChangeSpec.witness6 (enc:=enc) (C:=Tryz.checked) false ⟨#[],#[.agg #[.int .i64 0,.int .i64 0,.int .i64 0,.int .i64 0,.int .i64 0]],[]⟩ 8 H5 H5 H5 H5)
  rfl H5 Tryz.underlying4 (fun ds h=>by match ds,h with | [a],_=>exact⟨rfl,rfl,rfl⟩) Tryz.laidOut H5 ?_
 intro W base args ds p hval0 hA0 hlt hsz0
 have hval:∀(j:Nat) t v,Tryz.f3.params[j]?=some t→args[j]?=some v→Value.okWide Tryz.prog W .any base t v:=hval0
 have hA:DataW.TrodAll enc Tryz.prog W 0 (fun _=>true) true Tryz.f3.params.toList args.toList ds p:=hA0
 have hsz:(DataW.weightsEach Tryz.prog Tryz.f3.params.toList ds).all (· ≤ reachBytes)=true:=hsz0
 rw[Tryz.params3] at hA hval hsz
 obtain⟨v0,d0,rfl,rfl,h0⟩:=trodAll_one hA
 obtain⟨x0,x1,x2,x3,x4,h1,h2,rfl⟩:=open_args (hval 0 _ v0 rfl rfl) h0
 exact A4i x0 x1 x2 x3 x4 h1 h2 W
theorem vaultRefuses_holds:Rows.VaultRefusesSaid :=
 OpenClaim.holds_of_wide 3 Tryz.f3 rfl rfl rfl rfl rfl rfl rfl ⟨rfl,rfl,rfl,rfl,rfl⟩ rfl rfl rfl rfl rfl H5 Tryz.func3 H5
  (of_decide_eq_true H5) (by unfold Func.isWrapper;rw[if_neg G7];exact⟨rfl,rfl⟩)
  (fun os started H enc _=>A3i os started H enc)
end
end Go.Proofs.YtggbbafanhceaaaGreatRR
