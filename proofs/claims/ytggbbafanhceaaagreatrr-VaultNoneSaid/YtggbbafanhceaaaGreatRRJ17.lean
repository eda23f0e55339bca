/-
  Laws that the claims of this seat use, of several texts in one. No condition of their own.
-/
import Derived.Test.YtggbbafanhceaaaGreatRRJ16
set_option maxRecDepth 100000
set_option maxHeartbeats 8000000
set_option linter.all false
namespace Go.Proofs.YtggbbafanhceaaaGreatRR
section
open Go.ChangeShapes Go.WideShapes Go.ChangeAt Go.RowKit
attribute [local irreducible] wpList wpListIn Oper.quietAt wpM
open Go.Maps
abbrev Pt:=Int × List UInt8
def putC(x:Pt):List Value:=.int .i64 x.1::x.2.map bv
def putsC(l:List Pt):List Value:=l.flatMap putC
def okP(l:List Pt):Prop:=∀x∈l,x.2.length=128∧(-9223372036854775808≤x.1∧x.1≤9223372036854775807)
theorem P4{x:Pt}(h:x.2.length=128):(putC x).length=129:=by unfold putC;rw[A4J,A4D,h]
theorem putsC_len:∀{l:List Pt},okP l→(putsC l).length=l.length*129
 | [],_=>rfl
 | x::l,h=>by
  unfold putsC
  rw[A5E,A4s,P4 (h x (A4w ..)).1]
  have:=putsC_len (l:=l) (fun y hy=>h y (A4B _ hy))
  unfold putsC at this
  rw[this,A4J]
  omega
theorem putsC_at:∀{l:List Pt},okP l→∀{k:Nat}{x:Pt},l[k]?=some x→((putsC l).drop (k*129)).take 129=putC x
 | [],_,k,x,h=>by simp at h
 | y::l,h,0,x,hx=>by
  simp at hx;subst hx
  unfold putsC
  rw[A5E,A5K,A5V,A5n (P4 (h y (A4w ..)).1)]
 | y::l,h,k+1,x,hx=>by
  have ih:=putsC_at (l:=l) (fun z hz=>h z (A4B _ hz)) (k:=k) (x:=x) (by simpa using hx)
  unfold putsC at ih ⊢
  rw[A5E,A5S,A4I (by rw[P4 (h y (A4w ..)).1];omega),A4A,P4 (h y (A4w ..)).1,show (k+1)*129 - 129=k*129 by omega]
  exact ih
def PutsAt(w:World)(v:Value)(l:List Pt):Prop:=okP l∧∃p c,v=.slice p l.length c∧l.length≤c∧(p=none→c=0)∧(l≠[]→∃b o cs t fr,p=some ⟨b,o,none⟩∧blk w b=some (.cells cs t fr)∧∀j x,(putsC l)[j]?=some x→cs[o+j]?=some x)
theorem PutsAt.below{w w':World}{v:Value}{l:List Pt}(h:PutsAt w v l)(hb:Below w.heap.size w w'):PutsAt w' v l:=by
 obtain⟨h0,p,c,h1,h2,h3,h4⟩:=h
 refine⟨h0,p,c,h1,h2,h3,fun hne=>?_⟩
 obtain⟨b,o,cs,t,fr,h5,h6,h7⟩:=h4 hne
 exact⟨b,o,cs,t,fr,h5,(hb.block b (J8 h6)).trans h6,h7⟩
theorem put_cells{cs:Array Value}{o:Nat}{l:List Pt}(ho:okP l)(hc:∀j x,(putsC l)[j]?=some x→cs[o+j]?=some x){k:Nat}{a:Int}{C:List UInt8}(hx:l[k]?=some (a,C)) :
  C.length=128∧o+k*129+129≤csz cs∧cut cs (o+k*129) 129=hdV a C∧cs[o+k*129]?=some (.int .i64 a)∧(∀i,i<128→cs[o+k*129+1+i]?=some (.int .u8 ((C.getD i 0).toNat:Int))):=by
 have hl:C.length=128:=(ho _ (A5c hx)).1
 have hat:=putsC_at ho hx
 have hg:∀i v,(putC (a,C))[i]?=some v→cs[o+k*129+i]?=some v:=fun i v hv=>by
  have h1:((putsC l).drop (k*129))[i]?=some v:=by
   rw[←hat,A5m] at hv
   split at hv
   ·exact hv
   ·cases hv
  rw[A5I] at h1
  have:=hc _ _ h1
  rwa [←A6k] at this
 have hlen:=P4 (x:=(a,C)) hl
 have hsz:o+k*129+129≤cs.size:=by
  have h1:(putC (a,C))[128]?=some ((putC (a,C))[128]'H9):=A4C H9
  have:=(A4L.1 (hg 128 _ h1)).1
  omega
 refine⟨hl,by rw[L6];exact hsz,?_,?_,fun i hi=>?_⟩
 ·have hex:cs.extract (o+k*129) (o+k*129+129)=hdV a C:=by
   apply A5J
   intro i
   unfold hdV
   by_cases hi:i<129
   ·have h1:(putC (a,C))[i]?=some ((putC (a,C))[i]'H9):=A4C H9
    have h2:=hg i _ h1
    rw[A6p,if_pos H9,h2,A4y,←h1]
    rfl
   ·rw[A5p (by rw[Array.size_extract];omega),A5p (by rw[A4X];unfold putC at hlen;dsimp only at hlen;omega)]
  unfold cut
  split
  ·rename_i h
   have:cs.extract (o+k*129) (o+k*129+129)=cs:=by
    rw[h.1]
    have h2:=h.2
    rw[L6] at h2
    rw[A4G,←h2,Array.extract_size]
   rw[←this];exact hex
  ·exact hex
 ·have:=hg 0 (.int .i64 a) rfl
  rwa [A5z] at this
 ·have h1:(putC (a,C))[1+i]?=some (.int .u8 ((C.getD i 0).toNat:Int)):=by
   show (Value.int .i64 a::C.map bv)[1+i]?=_
   rw[Nat.add_comm,A6B,A5f,A4C H9,A4T,A4C H9]
   rfl
  have:=hg (1+i) _ h1
  rwa [←A6k] at this
def inR(a:Int):Prop:=0≤a∧a≤65535
def soundP(l:List Pt):Prop:=(l.map (·.1)).Nodup∧(∀x∈l,inR x.1)∧l.length≤56
instance instRd1_1:ZeroT Tryz.prog 93 (hdV 0 (zs 128)):=⟨by kernel_rfl⟩
theorem rdSound_any(l:List Pt)(hl:l.length≤1000)(v:Value)(w0:World)(hv:PutsAt w0 v l) :
  Calls Tryz.prog 92 #[v] w0 fun e w'=>∃b,e=.returned (.bool b)∧(b=true↔soundP l)∧Below w0.heap.size w0 w':=by
 obtain⟨ho,p,c,rfl,hc,hp0,hcell⟩:=hv
 have hS:=St.start w0
 obtain⟨n,hn⟩:∃n,l.length=n:=⟨_,rfl⟩
 rw[hn] at hl hc ⊢
 go_enter Tryz.func92,Tryz.ntmps92
 repeat' (first|refine Zasm ?_|(refine Zks ?_;clear hS;intro b w hS)|(refine Ztsm ?_;clear hS;intro w hS)|(refine Zc ?_ ?_<;>intro hc)|(refine Zg ?_;first|go_step|go_step3|refine Zr ?_)|fail)
 refine s_makeMap hS I2 I2 ?_
 clear hS
 intro B w hS
 refine I4 ?_
 repeat' (first|refine ZaMm ?_|(refine ZkM ?_;clear hS;intro b w hS)|(refine ZtMm ?_;clear hS;intro w hS)|(refine Zc ?_ ?_<;>intro hc)|(refine Zg ?_;first|go_step|go_step3|refine Zr ?_)|fail)
 go_loopw [2,5,9] (fun u2 u5 u9 wr=>∃(k:Nat)(D:DataW Unit),k≤n∧u9=.int .i64 (k:Int)∧IsMap D∧((l.take k).map (·.1)).Nodup∧(∀x∈l.take k,inR x.1)∧(∀a:Int,D.atKey (.int .i64 a) (.lit (.int .i64 0))=.lit (.int .i64 (if a∈(l.take k).map (·.1) then 1 else 0)))∧StM w0 B k D wr []) (fun _ _ u9 _=>n - (intOf u9).toNat)
 case atStart=>exact⟨0,_,by omega,rfl,⟨[],rfl⟩,by simp,by simp,fun a=>by rfl,hS⟩
 case round =>
  clear hS
  obtain⟨k,D,hk,rfl,hD,hnd,hin,hat,hS⟩:=hrel
  by_cases hlt:k<n
  ·obtain⟨⟨a,C⟩,hx⟩:∃x,l[k]?=some x:=⟨_,A4C H9⟩
   obtain⟨b,o,cs,ty,fr,rfl,hb,hcc⟩:=hcell (by intro e;rw[e] at hn;simp at hn;omega)
   obtain⟨lC,c1,c2,c3,c4⟩:=put_cells ho hcc hx
   have hr : -9223372036854775808≤a∧a≤9223372036854775807:=(ho _ (A5c hx)).2
   have htk:l.take (k+1)=l.take k++[(a,C)]:=by rw[A6g,hx];rfl
   have s1:csz (hdV a C)=129:=by rw[L3,lC]
   have s2:csz (hdV 0 (zs 128))=129:=by rw[L3,zs_len]
   have hka:=hat a
   have hnew:∀(z:Int)(a':Int),(D.put (.int .i64 a) (.lit (.int .i64 z))).atKey (.int .i64 a') (.lit (.int .i64 0))=if a'=a then .lit (.int .i64 z) else .lit (.int .i64 (if a'∈(l.take k).map (·.1) then 1 else 0)):=fun z a'=>by
    by_cases he:a'=a
    ·subst he
     rw[if_pos rfl]
     exact atKey_put_same hD (by trivial) _ _
    ·rw[if_neg he,atKey_put_other (fun e=>he (by cases e;rfl)),hat a']
   by_cases hmem:a∈(l.take k).map (·.1)
   ·rw[if_pos hmem] at hka
    have hk2:=(hnew 2 a).trans (if_pos rfl)
    have hns:¬soundP l:=fun h=>by
     have h1:=h.1
     rw[←A4O (k+1) l,htk,A4Q,A4Q] at h1
     have h2:=(A6q.1 (A6q.1 h1).1).2.2
     exact h2 a hmem a I1 rfl
    repeat' (first|refine ZbMm ?_|((with_reducible refine cons_list ?_);first|((first|refine J6 I3 own_stM hS ?_ (hv:=by rw[A4r];first|exact c3|exact c2)|refine J0 I3 E9 ?_ (hv:=by first|rfl|exact bvs_getLA|(rw[A4r];first|exact c3|exact c2))|refine J5 I3 own_stM hS ?_ (hv:=by first|(first|exact c3|exact c2)|rfl)|refine I9 I3 E9 ?_ (hv:=by first|exact J1 _ _ A8|(first|exact c3|exact c2)|rfl)|refine J4 I3 ?_ (hv':=by first|exact bvs_getLA|(rw[A4r];first|exact c3|exact c2)))<;>refine I4 ?_))|(refine ZkM ?_;clear hS;intro b w hS)|(refine ZtMm ?_;clear hS;intro w hS)|(refine Zc ?_ ?_<;>intro hc)|((with_reducible refine cons_list ?_);first|(refine K0 I3 own_stM hS ?_ (hv:=O5 _ _);clear hS;intro w hS;refine I4 ?_))|(refine Zg ?_;first|go_step|go_step3|refine Zr ?_)|fail)
    refine A0p hS I2 I2 F7 I2 I2 hr hka ?_
    refine I4 ?_
    repeat' (first|refine ZaMm ?_|(refine ZkM ?_;clear hS;intro b w hS)|(refine ZtMm ?_;clear hS;intro w hS)|(refine Zc ?_ ?_<;>intro hc)|(refine Zg ?_;first|go_step|go_step3|refine Zr ?_)|fail)
    refine s_update hS I2 I2 F7 H9 I2 I2 I2 hr H9 ?_
    clear hS
    intro w hS
    refine I4 ?_
    repeat' (first|refine ZaMm ?_|(refine ZkM ?_;clear hS;intro b w hS)|(refine ZtMm ?_;clear hS;intro w hS)|(refine Zc ?_ ?_<;>intro hc)|(refine Zg ?_;first|go_step|go_step3|refine Zr ?_)|fail)
    refine A0p hS I2 I2 F7 I2 I2 hr hk2 ?_
    refine I4 ?_
    clear hnew hat hka hk2 hnd hin
    repeat' (first|refine ZaMm ?_|(refine ZkM ?_;clear hS;intro b w hS)|(refine ZtMm ?_;clear hS;intro w hS)|(refine Zc ?_ ?_<;>intro hc)|(refine Zg ?_;first|go_step|go_step3|refine Zr ?_)|fail)
    go_ret
    exact⟨false,rfl,by simp[hns],hS.1.below⟩
   ·rw[if_neg hmem] at hka
    have hk2:=(hnew 1 a).trans (if_pos rfl)
    have hnd':((l.take (k+1)).map (·.1)).Nodup:=by
     rw[htk,A4Q,A6q]
     exact⟨hnd,by simp,fun x hxm y hy=>by simp at hy;subst hy;exact fun e=>hmem (e ▸ hxm)⟩
    have hat':∀a':Int,(D.put (.int .i64 a) (.lit (.int .i64 1))).atKey (.int .i64 a') (.lit (.int .i64 0))=.lit (.int .i64 (if a'∈(l.take (k+1)).map (·.1) then 1 else 0)):=fun a'=>by
     rw[hnew 1 a',htk,A4Q]
     by_cases he:a'=a
     ·subst he;simp
     ·rw[if_neg he]
      simp[he]
    have hns:¬inR a→¬soundP l:=fun h h2=>h (h2.2.1 _ (A5c hx))
    by_cases hlow:a<0
    ·have hns2:=hns (fun h=>absurd h.1 H9)
     repeat' (first|refine ZbMm ?_|((with_reducible refine cons_list ?_);first|((first|refine J6 I3 own_stM hS ?_ (hv:=by rw[A4r];first|exact c3|exact c2)|refine J0 I3 E9 ?_ (hv:=by first|rfl|exact bvs_getLA|(rw[A4r];first|exact c3|exact c2))|refine J5 I3 own_stM hS ?_ (hv:=by first|(first|exact c3|exact c2)|rfl)|refine I9 I3 E9 ?_ (hv:=by first|exact J1 _ _ A8|(first|exact c3|exact c2)|rfl)|refine J4 I3 ?_ (hv':=by first|exact bvs_getLA|(rw[A4r];first|exact c3|exact c2)))<;>refine I4 ?_))|(refine ZkM ?_;clear hS;intro b w hS)|(refine ZtMm ?_;clear hS;intro w hS)|(refine Zc ?_ ?_<;>intro hc)|((with_reducible refine cons_list ?_);first|(refine K0 I3 own_stM hS ?_ (hv:=O5 _ _);clear hS;intro w hS;refine I4 ?_))|(refine Zg ?_;first|go_step|go_step3|refine Zr ?_)|fail)
     refine A0p hS I2 I2 F7 I2 I2 hr hka ?_
     refine I4 ?_
     repeat' (first|refine ZaMm ?_|(refine ZkM ?_;clear hS;intro b w hS)|(refine ZtMm ?_;clear hS;intro w hS)|(refine Zc ?_ ?_<;>intro hc)|(refine Zg ?_;first|go_step|go_step3|refine Zr ?_)|fail)
     refine s_update hS I2 I2 F7 H9 I2 I2 I2 hr H9 ?_
     clear hS
     intro w hS
     refine I4 ?_
     repeat' (first|refine ZaMm ?_|(refine ZkM ?_;clear hS;intro b w hS)|(refine ZtMm ?_;clear hS;intro w hS)|(refine Zc ?_ ?_<;>intro hc)|(refine Zg ?_;first|go_step|go_step3|refine Zr ?_)|fail)
     refine A0p hS I2 I2 F7 I2 I2 hr hk2 ?_
     refine I4 ?_
     clear hnew hat hka hk2 hnd hin hat' hnd'
     repeat' (first|refine ZaMm ?_|(refine ZkM ?_;clear hS;intro b w hS)|(refine ZtMm ?_;clear hS;intro w hS)|(refine Zc ?_ ?_<;>intro hc)|(refine Zg ?_;first|go_step|go_step3|refine Zr ?_)|fail)
     go_ret
     exact⟨false,rfl,by simp[hns2],hS.1.below⟩
    ·by_cases hhigh:65535<a
     ·have hns2:=hns (fun h=>absurd h.2 H9)
      repeat' (first|refine ZbMm ?_|((with_reducible refine cons_list ?_);first|((first|refine J6 I3 own_stM hS ?_ (hv:=by rw[A4r];first|exact c3|exact c2)|refine J0 I3 E9 ?_ (hv:=by first|rfl|exact bvs_getLA|(rw[A4r];first|exact c3|exact c2))|refine J5 I3 own_stM hS ?_ (hv:=by first|(first|exact c3|exact c2)|rfl)|refine I9 I3 E9 ?_ (hv:=by first|exact J1 _ _ A8|(first|exact c3|exact c2)|rfl)|refine J4 I3 ?_ (hv':=by first|exact bvs_getLA|(rw[A4r];first|exact c3|exact c2)))<;>refine I4 ?_))|(refine ZkM ?_;clear hS;intro b w hS)|(refine ZtMm ?_;clear hS;intro w hS)|(refine Zc ?_ ?_<;>intro hc)|((with_reducible refine cons_list ?_);first|(refine K0 I3 own_stM hS ?_ (hv:=O5 _ _);clear hS;intro w hS;refine I4 ?_))|(refine Zg ?_;first|go_step|go_step3|refine Zr ?_)|fail)
      refine A0p hS I2 I2 F7 I2 I2 hr hka ?_
      refine I4 ?_
      repeat' (first|refine ZaMm ?_|(refine ZkM ?_;clear hS;intro b w hS)|(refine ZtMm ?_;clear hS;intro w hS)|(refine Zc ?_ ?_<;>intro hc)|(refine Zg ?_;first|go_step|go_step3|refine Zr ?_)|fail)
      refine s_update hS I2 I2 F7 H9 I2 I2 I2 hr H9 ?_
      clear hS
      intro w hS
      refine I4 ?_
      repeat' (first|refine ZaMm ?_|(refine ZkM ?_;clear hS;intro b w hS)|(refine ZtMm ?_;clear hS;intro w hS)|(refine Zc ?_ ?_<;>intro hc)|(refine Zg ?_;first|go_step|go_step3|refine Zr ?_)|fail)
      refine A0p hS I2 I2 F7 I2 I2 hr hk2 ?_
      refine I4 ?_
      clear hnew hat hka hk2 hnd hin hat' hnd'
      repeat' (first|refine ZaMm ?_|(refine ZkM ?_;clear hS;intro b w hS)|(refine ZtMm ?_;clear hS;intro w hS)|(refine Zc ?_ ?_<;>intro hc)|(refine Zg ?_;first|go_step|go_step3|refine Zr ?_)|fail)
      go_ret
      exact⟨false,rfl,by simp[hns2],hS.1.below⟩
     ·have hin':∀x∈l.take (k+1),inR x.1:=fun x hx'=>by
       rw[htk,A5j] at hx'
       rcases hx' with h|h
       ·exact hin x h
       ·simp at h;subst h;exact⟨by omega,by omega⟩
      repeat' (first|refine ZbMm ?_|((with_reducible refine cons_list ?_);first|((first|refine J6 I3 own_stM hS ?_ (hv:=by rw[A4r];first|exact c3|exact c2)|refine J0 I3 E9 ?_ (hv:=by first|rfl|exact bvs_getLA|(rw[A4r];first|exact c3|exact c2))|refine J5 I3 own_stM hS ?_ (hv:=by first|(first|exact c3|exact c2)|rfl)|refine I9 I3 E9 ?_ (hv:=by first|exact J1 _ _ A8|(first|exact c3|exact c2)|rfl)|refine J4 I3 ?_ (hv':=by first|exact bvs_getLA|(rw[A4r];first|exact c3|exact c2)))<;>refine I4 ?_))|(refine ZkM ?_;clear hS;intro b w hS)|(refine ZtMm ?_;clear hS;intro w hS)|(refine Zc ?_ ?_<;>intro hc)|((with_reducible refine cons_list ?_);first|(refine K0 I3 own_stM hS ?_ (hv:=O5 _ _);clear hS;intro w hS;refine I4 ?_))|(refine Zg ?_;first|go_step|go_step3|refine Zr ?_)|fail)
      refine A0p hS I2 I2 F7 I2 I2 hr hka ?_
      refine I4 ?_
      repeat' (first|refine ZaMm ?_|(refine ZkM ?_;clear hS;intro b w hS)|(refine ZtMm ?_;clear hS;intro w hS)|(refine Zc ?_ ?_<;>intro hc)|(refine Zg ?_;first|go_step|go_step3|refine Zr ?_)|fail)
      refine s_update hS I2 I2 F7 H9 I2 I2 I2 hr H9 ?_
      clear hS
      intro w hS
      refine I4 ?_
      repeat' (first|refine ZaMm ?_|(refine ZkM ?_;clear hS;intro b w hS)|(refine ZtMm ?_;clear hS;intro w hS)|(refine Zc ?_ ?_<;>intro hc)|(refine Zg ?_;first|go_step|go_step3|refine Zr ?_)|fail)
      refine A0p hS I2 I2 F7 I2 I2 hr hk2 ?_
      refine I4 ?_
      clear hnew hat hka hk2 hnd hin
      repeat' (first|refine ZaMm ?_|(refine ZkM ?_;clear hS;intro b w hS)|(refine ZtMm ?_;clear hS;intro w hS)|(refine Zc ?_ ?_<;>intro hc)|(refine Zg ?_;first|go_step|go_step3|refine Zr ?_)|fail)
      go_roundw
      case rel=>exact⟨k+1,_,by omega,by push_cast;rfl,hD.put _ _,hnd',hin',hat',own_stM.sub hS (fun _ h=>absurd h A5e) List.nodup_nil⟩
      case measure=>first|(simp[intOf];done)|(simp[intOf];omega)
  ·obtain rfl:k=n:=by omega
   have htl:l.take k=l:=A4E H9
   rw[htl] at hnd hin
   clear hat
   by_cases h56:k≤56
   ·repeat' (first|refine ZaMm ?_|(refine ZkM ?_;clear hS;intro b w hS)|(refine ZtMm ?_;clear hS;intro w hS)|(refine Zc ?_ ?_<;>intro hc)|(refine Zg ?_;first|go_step|go_step3|refine Zr ?_)|fail)
    go_ret
    exact⟨true,rfl,by simp;exact⟨hnd,hin,by omega⟩,hS.1.below⟩
   ·repeat' (first|refine ZaMm ?_|(refine ZkM ?_;clear hS;intro b w hS)|(refine ZtMm ?_;clear hS;intro w hS)|(refine Zc ?_ ?_<;>intro hc)|(refine Zg ?_;first|go_step|go_step3|refine Zr ?_)|fail)
    go_ret
    exact⟨false,rfl,by simp;exact fun h=>absurd h.2.2 H9,hS.1.below⟩
end
section
open Go.ChangeShapes Go.WideShapes Go.ChangeAt Go.RowKit
attribute [local irreducible] wpList wpListIn Oper.quietAt wpM
section
theorem r_neCel{P:Program}{o:Oper}{a:Act}{w:World}{t t' n:Nat}{x y:Operand}{l m:List UInt8}{q:Bool}(hop:o.op=.binOp .neq t x y t')(hx:evO a x=some (.agg (bvs l)))(hy:evO a y=some (.agg (bvs m)))(hb:isBytes P t n=true)(hg:P.eqGuardType P.depth t=false)(hl:l.length=n)(hm:m.length=n)(hq:(!(l == m))=q):(execOp a.eval o).run P w=.ok (.value (.bool q)) w:=by
 unfold execOp;rw[hop];subst hq
 simp only[I6 hx,I6 hy,Sem.run_bind,run_eqGuard_agg w .neq t x y _ _ hg,Result.andThen_ok,run_neq_struct,Z4 hb l m (by rw[I5,hl]) (by rw[I5,hm]) w]
 rfl
end
section
end
section
def lastP(l:List Pt)(a:Int):Option Pt:=l.reverse.find? fun x=>x.1 == a
theorem O4(l:List Pt)(x:Pt)(a:Int):lastP (l++[x]) a=if x.1=a then some x else lastP l a:=by
 unfold lastP
 rw[List.reverse_append,List.reverse_singleton,List.singleton_append,List.find?_cons]
 by_cases h:x.1=a
 ·simp[h]
 ·rw[show (x.1 == a)=false by simpa using h]
  simp[h]
theorem P1{l:List Pt}{a:Int}{x:Pt}(h:lastP l a=some x):x.1=a∧x∈l:=by
 unfold lastP at h
 have h1:=List.find?_some h
 have h2:=List.mem_of_find?_eq_some h
 exact⟨by simpa using h1,List.mem_reverse.1 h2⟩
theorem lastP_mem{l:List Pt}{x:Pt}(h:x∈l):∃y,lastP l x.1=some y:=by
 cases hl:lastP l x.1 with
 | some y=>exact⟨y,rfl⟩
 | none =>
  unfold lastP at hl
  rw[List.find?_eq_none] at hl
  have:=hl x (List.mem_reverse.2 h)
  simp at this
def IsMerge(l R:List Pt):Prop:=R.Pairwise (fun x y=>x.1<y.1)∧∀x,x∈R↔lastP l x.1=some x
theorem sorted_ext:∀{R S:List Pt},R.Pairwise (fun x y=>x.1<y.1)→S.Pairwise (fun x y=>x.1<y.1)→(∀x,x∈R↔x∈S)→R=S
 | [],[],_,_,_=>rfl
 | [],y::S,_,_,h=>absurd ((h y).2 (A4w ..)) A5e
 | x::R,[],_,_,h=>absurd ((h x).1 (A4w ..)) A5e
 | x::R,y::S,hR,hS,h=>by
  rw[List.pairwise_cons] at hR hS
  have hxy:x=y:=by
   rcases A4R.1 ((h x).1 (A4w ..)) with e|e
   ·exact e
   ·rcases A4R.1 ((h y).2 (A4w ..)) with e2|e2
    ·exact e2.symm
    ·have h1:=hS.1 x e
     have h2:=hR.1 y e2
     omega
  subst hxy
  congr 1
  refine sorted_ext hR.2 hS.2 fun z=>?_
  have hz:=h z
  constructor
  ·intro hz1
   rcases A4R.1 (hz.1 (A4B _ hz1)) with e|e
   ·subst e;have:=hR.1 z hz1;omega
   ·exact e
  ·intro hz1
   rcases A4R.1 (hz.2 (A4B _ hz1)) with e|e
   ·subst e;have:=hS.1 z hz1;omega
   ·exact e
theorem isMerge_unique{l R S:List Pt}(h1:IsMerge l R)(h2:IsMerge l S):R=S:=sorted_ext h1.1 h2.1 fun x=>(h1.2 x).trans (h2.2 x).symm
theorem nodup_le:∀{a b:List Int},a.Nodup→(∀x∈a,x∈b)→a.length≤b.length
 | [],b,_,_=>Nat.zero_le _
 | x::a,b,hn,hs=>by
  rw[A5q] at hn
  have hx:=hs x (A4w ..)
  have ih:=nodup_le (a:=a) (b:=b.erase x) hn.2 (fun y hy=>(List.mem_erase_of_ne (fun e=>hn.1 (by rw[←e];exact hy))).2 (hs y (A4B _ hy)))
  rw[List.length_erase_of_mem hx] at ih
  have:=List.length_pos_of_mem hx
  rw[A4J];omega
end
section
theorem sized_2(w0:World):Calls Tryz.prog 158 #[.int .i64 2] w0 fun e w'=>e=.returned (.bool true)∧Below w0.heap.size w0 w':=by
 have hS:=St.start w0
 go_enter Tryz.func158,Tryz.ntmps158
 repeat' (first|refine Zasm ?_|(refine Zks ?_;clear hS;intro b w hS)|(refine Ztsm ?_;clear hS;intro w hS)|(refine Zc ?_ ?_<;>intro hc)|(refine Zg ?_;first|go_step|go_step3|refine Zr ?_)|fail)
 go_ret
 exact⟨rfl,hS.below⟩
theorem put_2(l:List UInt8)(v:Value)(hv0:l=[]→v=.slice none 0 0)(hm:l.length≤1000)(n:Int)(hn:0≤n∧n≤65535)(w0:World)(hv:BytesAt w0 v l) :
  Calls Tryz.prog 132 #[v,.int .i64 2,.int .i64 n] w0 fun e w'=>∃sv,e=.returned (.tuple #[sv,.nilIface])∧OwnB w0.heap.size w' sv (l++beB (u64W n) 2)∧Below w0.heap.size w0 w':=by
 have hS:=St.start w0
 have hb8:(beB (u64W n) 2).length=2:=L8 _ _
 go_enter Tryz.func132,Tryz.ntmps132
 repeat' (first|refine Zasm ?_|(refine Zks ?_;clear hS;intro b w hS)|(refine Ztsm ?_;clear hS;intro w hS)|(refine Zc ?_ ?_<;>intro hc)|((with_reducible refine cons_list ?_);first|(refine J2 I3 own_st hS (sized_2 _) ?_;clear hS;intro w hS;refine I4 ?_)|(refine Stp.go I3 I2 I2 (r_shrI (i:=2) I2 I2 I2 (by first|rfl|omega) H8 (show n / ((256 ^ 2:Nat):Int)=0 by simp only[Nat.reducePow];omega)) ?_;refine I4 ?_))|(refine Zg ?_;first|go_step|go_step3|refine Zr ?_)|fail)
 refine J3 I3 I2 I2 I2 I2 I2 G7 (cloneB v l hv0 H9 _ (hv.below hS.below)) ?_
 rintro e w1 ⟨sv,rfl,ho,hB⟩
 refine⟨_,rfl,?_⟩
 refine I4 ?_
 obtain⟨Lr,hR,hS2⟩:=ho.join hS hB
 replace hS:=hS2
 clear hS2 ho hB
 repeat' (first|refine Zasm ?_|(refine Zks ?_;clear hS;intro b w hS)|(refine Ztsm ?_;clear hS;intro w hS)|(refine Zc ?_ ?_<;>intro hc)|(refine Zg ?_;first|go_step|go_step3|refine Zr ?_)|fail)
 refine J3 I3 I2 I2 I2 I2 I2 G7 (growB l sv Lr [] hR 2 H9 H9 _ _ hS) ?_
 rintro e w2 ⟨sv2,Lr2,rfl,hR2,hS2⟩
 refine⟨_,rfl,?_⟩
 refine I4 ?_
 replace hS:=hS2
 clear hS2 hR
 repeat' (first|refine Zasm ?_|(refine Zks ?_;clear hS;intro b w hS)|(refine Ztsm ?_;clear hS;intro w hS)|(refine Zc ?_ ?_<;>intro hc)|(refine Zg ?_;first|go_step|go_step3|refine Zr ?_)|fail)
 go_loopw [8,9] (fun u8 u9 wr=>∃(k:Nat)(Lr:List Blk),k≤2∧u9=.int .i64 (1 - (k:Int))∧BL (l++(beB (u64W n) 2).take k) u8 Lr∧St w0 wr Lr) (fun _ u9 _=>(intOf u9+1).toNat)
 case atStart=>exact⟨0,Lr2,by omega,rfl,by rw[A5a,A4U];exact hR2,by rwa [A4U] at hS⟩
 case round =>
  obtain⟨k,Lr,hk,rfl,hR,hS⟩:=hrel
  obtain⟨p2,c2,rfl⟩:=hR.slice
  have hll:(l++(beB (u64W n) 2).take k).length≤2000:=by rw[A4s,A4x];omega
  by_cases hlt:k<2
  ·obtain⟨i,hi⟩:∃i:Nat,1 - (k:Int)=(i:Int):=⟨1 - k,by omega⟩
   rw[hi]
   have hi8:i<8:=by omega
   have hby:=byte_at n hi8
   obtain⟨q,hq⟩:∃q,n / ((256 ^ i:Nat):Int)=q:=⟨_,rfl⟩
   rw[hq] at hby
   repeat' (first|refine Zasm ?_|(refine Zks ?_;clear hS;intro b w hS)|(refine Ztsm ?_;clear hS;intro w hS)|(refine Zc ?_ ?_<;>intro hc)|((with_reducible refine cons_list ?_);first|(refine Stp.go I3 I2 I2 (r_shrI I2 I2 I2 (by first|rfl|omega) hi8 hq) ?_;refine I4 ?_)|(refine Stp.go I3 I2 I2 (r_convQ I2 I2 G7 G7 hby) ?_;refine I4 ?_))|(refine Zg ?_;first|go_step|go_step3|refine Zr ?_)|fail)
   refine s_appB (L:=[]) (z:=UInt8.ofNat (u64W n / 256 ^ i)) (by rwa [A4U]) hR H9 I2 I2 I2 I2 ?_
   intro sv' Lr' w' hR' hS'
   rw[A4U] at hS'
   rw[A4H,←beB_next (m:=2) (u64W n) hlt H9] at hR'
   obtain⟨p3,c3,rfl⟩:=hR'.slice
   refine I4 ?_
   replace hS:=hS'
   clear hS' hR
   repeat' (first|refine Zasm ?_|(refine Zks ?_;clear hS;intro b w hS)|(refine Ztsm ?_;clear hS;intro w hS)|(refine Zc ?_ ?_<;>intro hc)|(refine Zg ?_;first|go_step|go_step3|refine Zr ?_)|fail)
   go_roundw
   case rel=>exact⟨k+1,Lr',by omega,by rw[←hi];push_cast;congr 1;omega,hR',hS⟩
   case measure=>first|(simp[intOf];done)|(simp[intOf];omega)
  ·obtain rfl:k=2:=by omega
   rw[A4E H9] at hR hll ⊢
   repeat' (first|refine Zasm ?_|(refine Zks ?_;clear hS;intro b w hS)|(refine Ztsm ?_;clear hS;intro w hS)|(refine Zc ?_ ?_<;>intro hc)|(refine Zg ?_;first|go_step|go_step3|refine Zr ?_)|fail)
   go_ret2
   exact⟨_,rfl,hR.own hS (fun x hx=>hx),hS.below⟩
theorem fillG(l:List UInt8)(hl:l.length≤128)(v:Value)(w0:World)(hv:BytesAt w0 v l) :
  Calls Tryz.prog 66 #[v] w0 fun e w'=>e=.returned (.tuple #[.agg (bvs (l++zs (128 - l.length))),.nilIface])∧Below w0.heap.size w0 w':=by
 obtain⟨p,c,rfl,hc⟩:=hv.slice
 have hS:=St.start w0
 have l1:l.take 128=l:=A4E hl
 have s1:csz (bvs (l++zs (128 - l.length)))=128:=by rw[I5,A4s,zs_len];omega
 go_enter Tryz.func66,Tryz.ntmps66
 repeat' (first|refine Zasm ?_|(refine Zks ?_;clear hS;intro b w hS)|(refine Ztsm ?_;clear hS;intro w hS)|(refine Zc ?_ ?_<;>intro hc)|(refine Zg ?_;first|go_step|go_step3|refine Zr ?_)|fail)
 refine U7 (i:=0) I3 own_st hS I2 I2 I2 I2 G7 I2 (hv.below hS.below) (by rw[l1,I5,zs_len];omega) (cs2:=bvs (l++zs (128 - l.length))) (by
  rw[P2,l1,A5a,A4A];congr 2;unfold zs;rw[A5B,A4G]) B0 rfl ?_
 clear hS
 intro w hS
 refine I4 ?_
 repeat' (first|refine Zasm ?_|(refine Zks ?_;clear hS;intro b w hS)|(refine Ztsm ?_;clear hS;intro w hS)|(refine Zc ?_ ?_<;>intro hc)|(refine Zg ?_;first|go_step|go_step3|refine Zr ?_)|fail)
 exact L9 (n:=128) Tryz.results66 H6 (.inl rfl) _ _ _ _ rfl rfl (hS.blk 1 rfl) (by rw[←L6];exact s1) ⟨rfl,hS.below⟩
end
section
attribute [local irreducible] shaL
end
section
attribute [local irreducible] tagL
def firstT(n:Int)(l:List Pt):List UInt8:=beB (u64W n) 8++(beB l.length 2++l.flatMap fun x=>beB (u64W x.1) 2)
def firstC(n:Int)(l:List Pt):List UInt8:=firstT n l++zs (128 - (firstT n l).length)
theorem nums_len:∀l:List Pt,(l.flatMap fun x=>beB (u64W x.1) 2).length=2*l.length
 | []=>rfl
 | x::l=>by rw[A5E,A4s,L8,nums_len l,A4J];omega
theorem firstT_len(n:Int)(l:List Pt):(firstT n l).length=10+2*l.length:=by
 unfold firstT
 rw[A4s,A4s,L8,L8,nums_len];omega
theorem nums_next{l:List Pt}{k:Nat}{x:Pt}(h:l[k]?=some x):((l.take (k+1)).flatMap fun x=>beB (u64W x.1) 2)=((l.take k).flatMap fun x=>beB (u64W x.1) 2)++beB (u64W x.1) 2:=by
 rw[A6g,h,List.flatMap_append]
 simp
theorem first_any(n:Int)(l:List Pt)(hs:soundP l)(v:Value)(w0:World)(hv:PutsAt w0 v l) :
  Calls Tryz.prog 93 #[.int .i64 n,v] w0 fun e w'=>e=.returned (.tuple #[.agg (bvs (firstC n l)),.nilIface])∧Below w0.heap.size w0 w':=by
 obtain⟨ho,p,c,rfl,hc,hp0,hcell⟩:=hv
 have hS:=St.start w0
 have hTl:=firstT_len n l
 have hFC:firstC n l=firstT n l++zs (128 - (firstT n l).length):=rfl
 have hTT:firstT n l=(beB (u64W n) 8++beB l.length 2)++l.flatMap fun x=>beB (u64W x.1) 2:=by unfold firstT;rw[A4H]
 have h8:=L8 (u64W n) 8
 have h2:=L8 l.length 2
 obtain⟨hs1,hs2,hs3⟩:=hs
 obtain⟨q,hq⟩:∃q,l.length=q:=⟨_,rfl⟩
 have hu:u64W (q:Int)=q:=by unfold u64W;omega
 rw[hq] at hc h2 hTT hTl hs3 ⊢
 obtain⟨A,hA⟩:∃A,beB (u64W n) 8=A:=⟨_,rfl⟩
 have hp8:=fun w=>put_8 [] (.slice none 0 0) (fun _=>rfl) I1 n w ⟨none,0,rfl,A4F _,fun _=>rfl,fun h=>absurd rfl h⟩
 rw[A4A,hA] at hp8
 rw[hA] at h8 hTT
 have s128:csz (bvs (zs 128))=128:=by rw[I5,zs_len]
 go_enter Tryz.func93,Tryz.ntmps93
 repeat' (first|refine Zasm ?_|(refine Zks ?_;clear hS;intro b w hS)|(refine Ztsm ?_;clear hS;intro w hS)|(refine Zc ?_ ?_<;>intro hc)|(refine Zg ?_;first|go_step|go_step3|refine Zr ?_)|fail)
 refine J3 I3 I2 I2 I2 I2 I2 G7 (hp8 _) ?_
 rintro e w1 ⟨sv,rfl,hO,hB⟩
 refine⟨_,rfl,?_⟩
 refine I4 ?_
 obtain⟨Lr,hR,hS2⟩:=hO.join hS hB
 replace hS:=hS2
 clear hS2 hO hB
 repeat' (first|refine Zasm ?_|(refine Zks ?_;clear hS;intro b w hS)|(refine Ztsm ?_;clear hS;intro w hS)|(refine Zc ?_ ?_<;>intro hc)|(refine Zg ?_;first|go_step|go_step3|refine Zr ?_)|fail)
 have hbA:=hR.inn hS (fun x hx=>A5Q _ hx)
 refine J3 I3 I2 I2 I2 I2 I2 G7 (put_2 A sv (fun e=>by rw[e] at h8;cases h8) H9 (q:Int) H9 _ hbA) ?_
 rintro e w2 ⟨sv2,rfl,hO,hB⟩
 rw[hu] at hO
 refine⟨_,rfl,?_⟩
 refine I4 ?_
 obtain⟨bR,hbR⟩:∃x,x=b:=⟨_,rfl⟩
 rw[←hbR] at hS ⊢
 clear hbR
 have hS3:St w0 w1 [(bR,bvs (zs 128),39)]:=own_st.sub hS (fun x hx=>A4W _ hx) I1
 clear hS hR hbA
 obtain⟨Lr2,hR,hS⟩:=hO.join hS3 hB
 clear hS3 hO hB
 repeat' (first|refine Zasm ?_|(refine Zks ?_;clear hS;intro b w hS)|(refine Ztsm ?_;clear hS;intro w hS)|(refine Zc ?_ ?_<;>intro hc)|(refine Zg ?_;first|go_step|go_step3|refine Zr ?_)|fail)
 go_loopw [6,7,8] (fun u6 u7 u8 wr=>∃(k:Nat)(Lr:List Blk),k≤q∧u8=.int .i64 (k:Int)∧u7=.nilIface∧BL ((A++beB q 2)++(l.take k).flatMap fun x=>beB (u64W x.1) 2) u6 Lr∧St w0 wr (Lr++[(bR,bvs (zs 128),39)])) (fun _ _ u8 _=>q - (intOf u8).toNat)
 case atStart=>exact⟨0,Lr2,by omega,rfl,rfl,by rw[A5a,List.flatMap_nil,A4U];exact hR,hS⟩
 case round =>
  clear hS hR
  obtain⟨k,Lr,hk,rfl,rfl,hR,hS⟩:=hrel
  have hlk:((A++beB q 2)++(l.take k).flatMap fun x=>beB (u64W x.1) 2).length=10+2*k:=by
   rw[A4s,A4s,h8,h2,nums_len,A4x];omega
  by_cases hlt:k<q
  ·obtain⟨⟨a,C⟩,hx⟩:∃x,l[k]?=some x:=⟨_,A4C H9⟩
   obtain⟨b,o,cs,ty,fr,rfl,hb,hcc⟩:=hcell (by intro e;rw[e] at hq;simp at hq;omega)
   obtain⟨lC,c1,c2,c3,c4⟩:=put_cells ho hcc hx
   have hin:=hs2 _ (A5c hx)
   have hnx:=nums_next hx
   dsimp only at hnx hin
   obtain⟨T,hTk⟩:∃T,((A++beB q 2)++(l.take k).flatMap fun x=>beB (u64W x.1) 2)=T:=⟨_,rfl⟩
   rw[hTk] at hR hlk
   have hbT:=hR.inn hS (fun x hx=>A5Q _ hx)
   have hin2:0≤a∧a≤65535:=hin
   repeat' (first|refine Zbsm ?_|((with_reducible refine cons_list ?_);first|((first|refine J6 I3 own_st hS ?_ (hv:=by rw[A4r];exact c3)|refine J0 I3 E9 ?_ (hv:=by first|rfl|exact bvs_getLA|(rw[A4r];exact c3))|refine J5 I3 own_st hS ?_ (hv:=by first|(exact c3)|rfl)|refine I9 I3 E9 ?_ (hv:=by first|exact J1 _ _ A8|(exact c3)|rfl)|refine J4 I3 ?_ (hv':=by first|exact bvs_getLA|(rw[A4r];exact c3)))<;>refine I4 ?_))|(refine Zks ?_;clear hS;intro b w hS)|(refine Ztsm ?_;clear hS;intro w hS)|(refine Zc ?_ ?_<;>intro hc)|(refine Zg ?_;first|go_step|go_step3|refine Zr ?_)|fail)
   refine J3 I3 I2 I2 I2 I2 I2 G7 (put_2 T _ (fun e=>by rw[e] at hlk;simp at hlk;omega) H9 a hin2 _ hbT) ?_
   rintro e w3 ⟨sv3,rfl,hO,hB⟩
   refine⟨_,rfl,?_⟩
   refine I4 ?_
   have hS3:St w0 wr [(bR,bvs (zs 128),39)]:=own_st.sub hS (fun x hx=>A4W _ hx) I1
   clear hS hR hbT
   obtain⟨Lr3,hR,hS⟩:=hO.join hS3 hB
   clear hS3 hO hB
   repeat' (first|refine Zasm ?_|(refine Zks ?_;clear hS;intro b w hS)|(refine Ztsm ?_;clear hS;intro w hS)|(refine Zc ?_ ?_<;>intro hc)|(refine Zg ?_;first|go_step|go_step3|refine Zr ?_)|fail)
   go_roundw
   case rel=>exact⟨k+1,Lr3,by omega,by push_cast;rfl,rfl,by rw[hnx,←A4H,hTk];exact hR,hS⟩
   case measure=>first|(simp[intOf];done)|(simp[intOf];omega)
  ·obtain rfl:k=q:=by omega
   rw[A4E H9,←hTT] at hR
   have hbT:=hR.inn hS (fun x hx=>A5Q _ hx)
   have sF:csz (bvs (firstC n l))=128:=by rw[hFC,I5,A4s,zs_len,hTl];omega
   have lF:(firstC n l).length=128:=by rw[hFC,A4s,zs_len,hTl];omega
   have hfill:=fillG (firstT n l) H9 _ _ hbT
   rw[←hFC] at hfill
   obtain⟨Y,hY⟩:∃Y,firstC n l=Y:=⟨_,rfl⟩
   rw[hY] at hfill sF lF
   have hS3:St w0 wr [(bR,bvs (zs 128),39)]:=own_st.sub hS (fun x hx=>A4W _ hx) I1
   clear hS
   have hS:=hS3
   clear hS3
   repeat' (first|refine Zasm ?_|(refine Zks ?_;clear hS;intro b w hS)|(refine Ztsm ?_;clear hS;intro w hS)|(refine Zc ?_ ?_<;>intro hc)|((with_reducible refine cons_list ?_);first|(refine J2 I3 own_st hS (hfill) ?_;clear hS;intro w hS;refine I4 ?_))|(refine Zg ?_;first|go_step|go_step3|refine Zr ?_)|fail)
   exact L9 (n:=128) Tryz.results93 H6 (.inl rfl) _ _ _ _ rfl rfl (hS.blk 0 rfl) (by rw[←L6];exact sF) ⟨by rw[hY];rfl,hS.below⟩
end
section
attribute [local irreducible] tagL
def pvR(b o i:Nat):Value:=.slice (some ⟨b,o+i*129+1,none⟩) 128 128
def bodyL(l:List Pt):List UInt8:=l.flatMap (·.2)
def tagC(key C:List UInt8)(l:List Pt):List UInt8:=tagL key (C++bodyL l)++zs 96
theorem A1F(key C:List UInt8)(l:List Pt):(tagC key C l).length=128:=by unfold tagC;rw[A4s,O1,zs_len]
theorem A2Z:∀{l:List Pt},okP l→(bodyL l).length=128*l.length
 | [],_=>rfl
 | x::l,h=>by
  have ih:=A2Z (l:=l) (fun y hy=>h y (A4B _ hy))
  unfold bodyL at ih ⊢
  rw[A5E,A4s,ih,(h x (A4w ..)).1,A4J];omega
theorem flat_body(C:List UInt8)(l:List Pt):(C::l.map (·.2)).flatten=C++bodyL l:=by
 rw[List.flatten_cons]
 congr 1
theorem parts_of{w:World}{b o:Nat}{cs:Array Value}{t:TypeId}{fr:Nat × Nat}{l:List Pt}(hb:blk w b=some (.cells cs t fr))(ho:okP l)(hc:∀j x,(putsC l)[j]?=some x→cs[o+j]?=some x):PartsAt w ((List.range l.length).map (pvR b o)) (l.map (·.2)):=by
 refine⟨by simp,fun i v m hi hm=>?_⟩
 rw[A5f] at hi hm
 cases hx:l[i]? with
 | none=>rw[hx] at hm;cases hm
 | some x =>
  rw[hx] at hm
  simp at hm
  subst hm
  obtain⟨a,C⟩:=x
  have hil:=(A4z.1 hx).1
  rw[List.getElem?_range hil] at hi
  simp at hi
  subst hi
  obtain⟨lC,c1,c2,c3,c4⟩:=put_cells ho hc hx
  refine⟨P6 hb lC (A4F _) (fun j x hj=>?_),by intro e;dsimp only at e;rw[e] at lC;cases lC⟩
  obtain⟨hj1,rfl⟩:=A4z.1 hj
  have hj3:j<C.length:=hj1
  have hj2:j<128:=by omega
  have:=c4 j hj2
  rw[this,A4T,A4C hj1]
  rfl
theorem range_snoc(b o k:Nat):(List.range (k+1)).map (pvR b o)=(List.range k).map (pvR b o)++[pvR b o k]:=by rw[List.range_succ,A4Q];rfl
theorem rdTag_any(key C:List UInt8)(hk:key.length≤1000000)(hC:C.length=128)(l:List Pt)(hl:l.length≤100)(kv v:Value)(w0:World)(hkv:BytesAt w0 kv key)(hv:PutsAt w0 v l) :
  Calls Tryz.prog 94 #[kv,.agg (bvs C),v] w0 fun e w'=>e=.returned (.agg (bvs (tagC key C l)))∧Below w0.heap.size w0 w':=by
 obtain⟨ho,p,c,rfl,hc,hp0,hcell⟩:=hv
 have hS:=St.start w0
 have sC:csz (bvs C)=128:=by rw[I5,hC]
 have s128:csz (bvs (zs 128))=128:=by rw[I5,zs_len]
 have hbl:=A2Z ho
 have hCne:C≠[]:=by intro e;rw[e] at hC;cases hC
 obtain⟨q,hq⟩:∃q,l.length=q:=⟨_,rfl⟩
 -- where the puts lie
 obtain⟨b0,o0,hpl⟩:∃b0 o0,(0<q→p=some ⟨b0,o0,none⟩∧∃cs t fr,blk w0 b0=some (.cells cs t fr)∧∀j x,(putsC l)[j]?=some x→cs[o0+j]?=some x):=by
  by_cases hne:l=[]
  ·exact⟨0,0,fun h=>by rw[hne] at hq;simp at hq;omega⟩
  ·obtain⟨b,o,cs,t,fr,h1,h2,h3⟩:=hcell hne
   exact⟨b,o,fun _=>⟨h1,cs,t,fr,h2,h3⟩⟩
 have hparts:PartsAt w0 ((List.range q).map (pvR b0 o0)) (l.map (·.2)):=by
  by_cases hne:l=[]
  ·subst hne;simp at hq;subst hq;exact PartsAt.nil w0
  ·have h0:0<q:=by rw[←hq];exact A6O.2 hne
   obtain⟨_,cs,t,fr,h2,h3⟩:=hpl h0
   rw[←hq];exact parts_of h2 ho h3
 rw[hq] at hc hl hbl ⊢
 have hG:=O1 key (C++bodyL l)
 have hTG:tagC key C l=tagL key (C++bodyL l)++zs 96:=rfl
 go_enter Tryz.func94,Tryz.ntmps94
 repeat' (first|refine Zasm ?_|(refine Zks ?_;clear hS;intro b w hS)|(refine Ztsm ?_;clear hS;intro w hS)|(refine Zc ?_ ?_<;>intro hc)|(refine Zg ?_;first|go_step|go_step3|refine Zr ?_)|fail)
 rename_i bC y0 bR y1 KK hKK
 go_loopw [7,8,15] (fun u7 u8 u15 wr=>∃(k g c:Nat)(sp:List Value),k≤q∧u15=.int .i64 (k:Int)∧u7=.slice (some ⟨g,0,none⟩) (k+1) c∧k+1≤c∧c≤maxLen∧sp.length=c - (k+1)∧St w0 wr [(g,((.slice (some ⟨bC,0,none⟩) 128 128::(List.range k).map (pvR b0 o0))++sp).toArray,63),(bR,bvs (zs 128),39),(bC,bvs C,39)]) (fun _ _ u15 _=>q - (intOf u15).toNat)
 case atStart=>exact⟨0,b,1,[],by omega,rfl,rfl,by omega,by decide,rfl,hS⟩
 case round =>
  clear hS
  obtain⟨k,g,c2,sp,hk2,rfl,rfl,k1,k2,k3,hS⟩:=hrel
  have k2':=k2
  unfold maxLen at k2'
  by_cases hlt:k<q
  ·obtain⟨rfl,cs,t,fr,hb,hcc⟩:=hpl H9
   have hpv:pvR b0 o0 k=.slice (some ⟨b0,o0+k*129+1,none⟩) 128 128:=rfl
   repeat' (first|refine Zasm ?_|((with_reducible refine cons_list ?_);first|((first|refine J0 I3 E9 ?_|refine I9 I3 E9 ?_)<;>refine I4 ?_))|(refine Zks ?_;clear hS;intro b w hS)|(refine Ztsm ?_;clear hS;intro w hS)|(refine Zc ?_ ?_<;>intro hc)|(refine Zg ?_;first|go_step|go_step3|refine Zr ?_)|fail)
   refine V7 I3 own_st hS I2 I2 I2 I2 G7 (by exact at_ 1 rfl) (olds:=.slice (some ⟨bC,0,none⟩) 128 128::(List.range k).map (pvR b0 o0)) (spare:=sp) I2 I1 k1 (by rw[k3,A5x]) (xs:=[pvR b0 o0 k]) (A0k (hS.blk 0 rfl) (fun j v h=>by rw[A4G];exact h)) I2 (by intro v hv;simp at hv;subst hv;rfl) G0 (nm:=k+1+1) H9 ?_
   clear hS
   intro b' c' sp' w' q1 q2 q3 hS
   replace hS:St w0 w' [(b',((.slice (some ⟨bC,0,none⟩) 128 128::(List.range (k+1)).map (pvR b0 o0))++sp').toArray,63),(bR,bvs (zs 128),39),(bC,bvs C,39)]:=by
    have:=hS.erase 1
    rw[range_snoc]
    exact this
   refine I4 ?_
   repeat' (first|refine Zasm ?_|(refine Zks ?_;clear hS;intro b w hS)|(refine Ztsm ?_;clear hS;intro w hS)|(refine Zc ?_ ?_<;>intro hc)|(refine Zg ?_;first|go_step|go_step3|refine Zr ?_)|fail)
   go_roundw
   case rel=>exact⟨k+1,b',c',sp',by omega,by push_cast;rfl,rfl,q1,q2,by rw[q3,A5x],hS⟩
   case measure=>first|(simp[intOf];done)|(simp[intOf];omega)
  ·obtain rfl:k=q:=by omega
   have hps:=PartsAt.cons (K5 (hS.blk 2 rfl) hC) hCne (hparts.below hS.below)
   have htg:=A2X key hk kv _ (C::l.map (·.2)) I1 (by rw[flat_body,A4s];omega) g 0 c2 _ _ _ _ (hkv.below hS.below) hps (hS.blk 0 rfl) (fun j v h=>by
    rw[A4G,A4y,A4P (A4z.1 h).1];exact h) H5
   rw[flat_body,show (C::l.map (·.2)).length=k+1 by simp[hq]] at htg
   obtain⟨G,hGG⟩:∃G,tagL key (C++bodyL l)=G:=⟨_,rfl⟩
   rw[hGG] at htg hG hTG
   have sG:csz (bvs G)=32:=by rw[I5,hG]
   have sZ:csz (bvs (zs 32))=32:=by rw[I5,zs_len]
   have sF:csz (bvs (G++zs 96))=128:=by rw[I5,A4s,hG,zs_len]
   have lF:(G++zs 96).length=128:=by rw[A4s,hG,zs_len]
   have hov:ovw (bvs (zs 128)) 0 (G.take 128)=bvs (G++zs 96):=by
    rw[A4E (l:=G) H9,P2,A5a,A4A,hG]
    congr 2
    unfold zs;rw[A5B]
   replace hS:=hS.erase 0
   repeat' (first|refine Zasm ?_|(refine Zks ?_;clear hS;intro b w hS)|(refine Ztsm ?_;clear hS;intro w hS)|(refine Zc ?_ ?_<;>intro hc)|((with_reducible refine cons_list ?_);first|(refine J2 I3 own_st hS (htg) ?_;clear hS;intro w hS;refine I4 ?_))|(refine Zg ?_;first|go_step|go_step3|refine Zr ?_)|fail)
   refine I8 2 H6 H6 ?_
   dsimp only[List.take,List.drop]
   iterate 2 (first|refine ZQm ?_|refine ZQs ?_|refine ZQa ?_|refine ZQz ?_)
   refine Zn own_st hS ?_
   clear hS
   intro pB w hS
   try dsimp only
   refine U7 (i:=0) I3 own_st hS I2 I2 I2 I2 G7 I2 (K5 (hS.blk 1 rfl) hG) (by rw[A4x,s128];omega) hov B0 rfl ?_
   clear hS
   intro w hS
   obtain⟨Y,hY⟩:∃Y,G++zs 96=Y:=⟨_,rfl⟩
   rw[hY] at hS sF lF hTG
   refine I4 ?_
   repeat' (first|refine Zasm ?_|(refine Zks ?_;clear hS;intro b w hS)|(refine Ztsm ?_;clear hS;intro w hS)|(refine Zc ?_ ?_<;>intro hc)|(refine Zg ?_;first|go_step|go_step3|refine Zr ?_)|fail)
   exact J9 (n:=128) Tryz.results94 H6 (.inl rfl) _ _ _ _ rfl rfl (hS.blk 2 rfl) (by rw[←L6];exact sF) ⟨by rw[hTG],hS.below⟩
end
end
end Go.Proofs.YtggbbafanhceaaaGreatRR
