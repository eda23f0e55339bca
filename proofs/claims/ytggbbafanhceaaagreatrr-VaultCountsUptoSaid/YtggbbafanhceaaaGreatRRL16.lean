/-
  Laws that the claims of this seat use, of several texts in one. No condition of their own.
-/
import Derived.Test.YtggbbafanhceaaaGreatRRL15
set_option maxRecDepth 100000
set_option maxHeartbeats 8000000
set_option linter.all false
namespace Go.Proofs.YtggbbafanhceaaaGreatRR
section
open Go.ChangeShapes Go.WideShapes Go.ChangeAt Go.RowKit
attribute [local irreducible] wpList wpListIn Oper.quietAt wpM
open Go.Maps
abbrev Pt:=Int × List UInt8
def putC(x:Pt):List Value:=.int .i64 x.1::x.2.map bv
def putsC(l:List Pt):List Value:=l.flatMap putC
def okP(l:List Pt):Prop:=∀x∈l,x.2.length=128∧(-9223372036854775808≤x.1∧x.1≤9223372036854775807)
theorem P8{x:Pt}(h:x.2.length=128):(putC x).length=129:=by unfold putC;rw[A4G,A4z,h]
theorem putsC_len:∀{l:List Pt},okP l→(putsC l).length=l.length*129
 | [],_=>rfl
 | x::l,h=>by
  unfold putsC
  rw[A5n,A4p,P8 (h x (A4t ..)).1]
  have:=putsC_len (l:=l) (fun y hy=>h y (A4A _ hy))
  unfold putsC at this
  rw[this,A4G]
  omega
theorem putsC_at:∀{l:List Pt},okP l→∀{k:Nat}{x:Pt},l[k]?=some x→((putsC l).drop (k*129)).take 129=putC x
 | [],_,k,x,h=>by simp at h
 | y::l,h,0,x,hx=>by
  simp at hx;subst hx
  unfold putsC
  rw[A5n,A5I,A5V,A5k (P8 (h y (A4t ..)).1)]
 | y::l,h,k+1,x,hx=>by
  have ih:=putsC_at (l:=l) (fun z hz=>h z (A4A _ hz)) (k:=k) (x:=x) (by simpa using hx)
  unfold putsC at ih ⊢
  rw[A5n,A5O,A4F (by rw[P8 (h y (A4t ..)).1];omega),A4x,P8 (h y (A4t ..)).1,show (k+1)*129 - 129=k*129 by omega]
  exact ih
def PutsAt(w:World)(v:Value)(l:List Pt):Prop:=okP l∧∃p c,v=.slice p l.length c∧l.length≤c∧(p=none→c=0)∧(l≠[]→∃b o cs t fr,p=some ⟨b,o,none⟩∧blk w b=some (.cells cs t fr)∧∀j x,(putsC l)[j]?=some x→cs[o+j]?=some x)
theorem PutsAt.below{w w':World}{v:Value}{l:List Pt}(h:PutsAt w v l)(hb:Below w.heap.size w w'):PutsAt w' v l:=by
 obtain⟨h0,p,c,h1,h2,h3,h4⟩:=h
 refine⟨h0,p,c,h1,h2,h3,fun hne=>?_⟩
 obtain⟨b,o,cs,t,fr,h5,h6,h7⟩:=h4 hne
 exact⟨b,o,cs,t,fr,h5,(hb.block b (J5 h6)).trans h6,h7⟩
theorem put_cells{cs:Array Value}{o:Nat}{l:List Pt}(ho:okP l)(hc:∀j x,(putsC l)[j]?=some x→cs[o+j]?=some x){k:Nat}{a:Int}{C:List UInt8}(hx:l[k]?=some (a,C)) :
  C.length=128∧o+k*129+129≤csz cs∧cut cs (o+k*129) 129=hdV a C∧cs[o+k*129]?=some (.int .i64 a)∧(∀i,i<128→cs[o+k*129+1+i]?=some (.int .u8 ((C.getD i 0).toNat:Int))):=by
 have hl:C.length=128:=(ho _ (A5a hx)).1
 have hat:=putsC_at ho hx
 have hg:∀i v,(putC (a,C))[i]?=some v→cs[o+k*129+i]?=some v:=fun i v hv=>by
  have h1:((putsC l).drop (k*129))[i]?=some v:=by
   rw[←hat,A5h] at hv
   split at hv
   ·exact hv
   ·cases hv
  rw[A5G] at h1
  have:=hc _ _ h1
  rwa [←A6c] at this
 have hlen:=P8 (x:=(a,C)) hl
 have hsz:o+k*129+129≤cs.size:=by
  have h1:(putC (a,C))[128]?=some ((putC (a,C))[128]'H6):=A4y H6
  have:=(A4H.1 (hg 128 _ h1)).1
  omega
 refine⟨hl,by rw[K3];exact hsz,?_,?_,fun i hi=>?_⟩
 ·have hex:cs.extract (o+k*129) (o+k*129+129)=hdV a C:=by
   apply A5D
   intro i
   unfold hdV
   by_cases hi:i<129
   ·have h1:(putC (a,C))[i]?=some ((putC (a,C))[i]'H6):=A4y H6
    have h2:=hg i _ h1
    rw[A6k,if_pos H6,h2,A4w,←h1]
    rfl
   ·rw[A5m (by rw[Array.size_extract];omega),A5m (by rw[A4V];unfold putC at hlen;dsimp only at hlen;omega)]
  unfold cut
  split
  ·rename_i h
   have:cs.extract (o+k*129) (o+k*129+129)=cs:=by
    rw[h.1]
    have h2:=h.2
    rw[K3] at h2
    rw[A4D,←h2,Array.extract_size]
   rw[←this];exact hex
  ·exact hex
 ·have:=hg 0 (.int .i64 a) rfl
  rwa [A5C] at this
 ·have h1:(putC (a,C))[1+i]?=some (.int .u8 ((C.getD i 0).toNat:Int)):=by
   show (Value.int .i64 a::C.map bv)[1+i]?=_
   rw[Nat.add_comm,A6o,A4U,A4y H6,A4R,A4y H6]
   rfl
  have:=hg (1+i) _ h1
  rwa [←A6c] at this
def inR(a:Int):Prop:=0≤a∧a≤65535
def soundP(l:List Pt):Prop:=(l.map (·.1)).Nodup∧(∀x∈l,inR x.1)∧l.length≤56
instance(priority:=2000) instRd1_1:ZeroT Tryz.prog 93 (hdV 0 (zs 128)):=⟨by kernel_rfl⟩
theorem rdSound_any(l:List Pt)(hl:l.length≤1000)(v:Value)(w0:World)(hv:PutsAt w0 v l) :
  Calls Tryz.prog 92 #[v] w0 fun e w'=>∃b,e=.returned (.bool b)∧(b=true↔soundP l)∧Below w0.heap.size w0 w':=by
 obtain⟨ho,p,c,rfl,hc,hp0,hcell⟩:=hv
 have hS:=St.start w0
 obtain⟨n,hn⟩:∃n,l.length=n:=⟨_,rfl⟩
 rw[hn] at hl hc ⊢
 go_enter Tryz.func92,Tryz.ntmps92
 refine Zdsm ?_;intro _ _ _
 refine s_makeMap hS H8 H8 ?_
 clear hS
 intro B w hS
 refine I1 ?_
 refine ZdMm ?_;intro _ _
 go_loopw [2,5,9] (fun u2 u5 u9 wr=>∃(k:Nat)(D:DataW Unit),k≤n∧u9=.int .i64 (k:Int)∧IsMap D∧((l.take k).map (·.1)).Nodup∧(∀x∈l.take k,inR x.1)∧(∀a:Int,D.atKey (.int .i64 a) (.lit (.int .i64 0))=.lit (.int .i64 (if a∈(l.take k).map (·.1) then 1 else 0)))∧StM w0 B k D wr []) (fun _ _ u9 _=>n - (intOf u9).toNat)
 case atStart=>exact⟨0,_,by omega,rfl,⟨[],rfl⟩,by simp,by simp,fun a=>by rfl,hS⟩
 case round =>
  clear hS
  obtain⟨k,D,hk,rfl,hD,hnd,hin,hat,hS⟩:=hrel
  by_cases hlt:k<n
  ·obtain⟨⟨a,C⟩,hx⟩:∃x,l[k]?=some x:=⟨_,A4y H6⟩
   obtain⟨b,o,cs,ty,fr,rfl,hb,hcc⟩:=hcell D4
   obtain⟨lC,c1,c2,c3,c4⟩:=put_cells ho hcc hx
   have hr : -9223372036854775808≤a∧a≤9223372036854775807:=(ho _ (A5a hx)).2
   have htk:l.take (k+1)=l.take k++[(a,C)]:=by rw[A5S,hx];rfl
   have s1:csz (hdV a C)=129:=by rw[L6,lC]
   have s2:csz (hdV 0 (zs 128))=129:=by rw[L6,zs_len]
   have hka:=hat a
   have hnew:∀(z:Int)(a':Int),(D.put (.int .i64 a) (.lit (.int .i64 z))).atKey (.int .i64 a') (.lit (.int .i64 0))=if a'=a then .lit (.int .i64 z) else .lit (.int .i64 (if a'∈(l.take k).map (·.1) then 1 else 0)):=fun z a'=>by
    by_cases he:a'=a
    ·subst he
     rw[if_pos rfl]
     exact atKey_put_same hD (by trivial) _ _
    ·rw[if_neg he,atKey_put_other (fun e=>he (by cases e;rfl)),hat a']
   by_cases hmem:a∈(l.take k).map (·.1)
   ·rw[if_pos hmem] at hka
    have hk2:=(hnew 2 a).trans (if_pos rfl)
    have hns:¬soundP l:=fun h=>by
     have h1:=h.1
     rw[←A4L (k+1) l,htk,A4N,A4N] at h1
     have h2:=(A6p.1 (A6p.1 h1).1).2.2
     exact h2 a hmem a H7 rfl
    repeat' (first|refine ZbMm ?_|refine ZvM ?_|(refine ZkM ?_;clear hS;intro b w hS)|(refine ZtMm ?_;clear hS;intro w hS)|(refine Zc ?_ ?_<;>intro hc)|((with_reducible refine cons_list ?_);first|(refine J8 H9 own_stM hS ?_ (hv:=P1 _ _);clear hS;intro w hS;refine I1 ?_))|(refine Zg ?_;first|go_step|go_step3|refine Zr ?_)|fail)
    refine A0r hS H8 H8 F3 H8 H8 hr hka ?_
    refine I1 ?_
    refine ZdMm ?_;show _
    refine s_update hS H8 H8 F3 H6 H8 H8 H8 hr H6 ?_
    clear hS
    intro w hS
    refine I1 ?_
    refine ZdMm ?_;intro _ _
    refine A0r hS H8 H8 F3 H8 H8 hr hk2 ?_
    refine I1 ?_
    clear hnew hat hka hk2 hnd hin
    refine ZdMm ?_;show _
    go_ret
    exact⟨false,rfl,by simp[hns],hS.1.below⟩
   ·rw[if_neg hmem] at hka
    have hk2:=(hnew 1 a).trans (if_pos rfl)
    have hnd':((l.take (k+1)).map (·.1)).Nodup:=by
     rw[htk,A4N,A6p]
     exact⟨hnd,by simp,fun x hxm y hy=>by simp at hy;subst hy;exact fun e=>hmem (e ▸ hxm)⟩
    have hat':∀a':Int,(D.put (.int .i64 a) (.lit (.int .i64 1))).atKey (.int .i64 a') (.lit (.int .i64 0))=.lit (.int .i64 (if a'∈(l.take (k+1)).map (·.1) then 1 else 0)):=fun a'=>by
     rw[hnew 1 a',htk,A4N]
     by_cases he:a'=a
     ·subst he;simp
     ·rw[if_neg he]
      simp[he]
    have hns:¬inR a→¬soundP l:=fun h h2=>h (h2.2.1 _ (A5a hx))
    by_cases hlow:a<0
    ·have hns2:=hns (fun h=>absurd h.1 H6)
     repeat' (first|refine ZbMm ?_|((with_reducible refine cons_list ?_);first|((first|refine J4 H9 own_stM hS ?_ (hv:=by rw[A4o];first|exact c3|exact c2)|refine I7 H9 E5 ?_ (hv:=by first|rfl|exact bvs_getLA|(rw[A4o];first|exact c3|exact c2))|refine J3 H9 own_stM hS ?_ (hv:=by first|(first|exact c3|exact c2)|rfl)|refine I8 H9 E5 ?_ (hv:=by first|exact I6 _ _ A8|(first|exact c3|exact c2)|rfl)|refine J1 H9 ?_ (hv':=by first|exact bvs_getLA|(rw[A4o];first|exact c3|exact c2)))<;>refine I1 ?_))|(refine ZkM ?_;clear hS;intro b w hS)|(refine ZtMm ?_;clear hS;intro w hS)|(refine Zc ?_ ?_<;>intro hc)|((with_reducible refine cons_list ?_);first|(refine J8 H9 own_stM hS ?_ (hv:=P1 _ _);clear hS;intro w hS;refine I1 ?_))|(refine Zg ?_;first|go_step|go_step3|refine Zr ?_)|fail)
     refine A0r hS H8 H8 F3 H8 H8 hr hka ?_
     refine I1 ?_
     refine ZdMm ?_;show _
     refine s_update hS H8 H8 F3 H6 H8 H8 H8 hr H6 ?_
     clear hS
     intro w hS
     refine I1 ?_
     refine ZdMm ?_;intro _ _
     refine A0r hS H8 H8 F3 H8 H8 hr hk2 ?_
     refine I1 ?_
     clear hnew hat hka hk2 hnd hin hat' hnd'
     refine ZdMm ?_;show _
     go_ret
     exact⟨false,rfl,by simp[hns2],hS.1.below⟩
    ·by_cases hhigh:65535<a
     ·have hns2:=hns (fun h=>absurd h.2 H6)
      repeat' (first|refine ZbMm ?_|((with_reducible refine cons_list ?_);first|((first|refine J4 H9 own_stM hS ?_ (hv:=by rw[A4o];first|exact c3|exact c2)|refine I7 H9 E5 ?_ (hv:=by first|rfl|exact bvs_getLA|(rw[A4o];first|exact c3|exact c2))|refine J3 H9 own_stM hS ?_ (hv:=by first|(first|exact c3|exact c2)|rfl)|refine I8 H9 E5 ?_ (hv:=by first|exact I6 _ _ A8|(first|exact c3|exact c2)|rfl)|refine J1 H9 ?_ (hv':=by first|exact bvs_getLA|(rw[A4o];first|exact c3|exact c2)))<;>refine I1 ?_))|(refine ZkM ?_;clear hS;intro b w hS)|(refine ZtMm ?_;clear hS;intro w hS)|(refine Zc ?_ ?_<;>intro hc)|((with_reducible refine cons_list ?_);first|(refine J8 H9 own_stM hS ?_ (hv:=P1 _ _);clear hS;intro w hS;refine I1 ?_))|(refine Zg ?_;first|go_step|go_step3|refine Zr ?_)|fail)
      refine A0r hS H8 H8 F3 H8 H8 hr hka ?_
      refine I1 ?_
      refine ZdMm ?_;show _
      refine s_update hS H8 H8 F3 H6 H8 H8 H8 hr H6 ?_
      clear hS
      intro w hS
      refine I1 ?_
      refine ZdMm ?_;intro _ _
      refine A0r hS H8 H8 F3 H8 H8 hr hk2 ?_
      refine I1 ?_
      clear hnew hat hka hk2 hnd hin hat' hnd'
      refine ZdMm ?_;show _
      go_ret
      exact⟨false,rfl,by simp[hns2],hS.1.below⟩
     ·have hin':∀x∈l.take (k+1),inR x.1:=fun x hx'=>by
       rw[htk,A5c] at hx'
       rcases hx' with h|h
       ·exact hin x h
       ·simp at h;subst h;exact⟨by omega,by omega⟩
      repeat' (first|refine ZbMm ?_|((with_reducible refine cons_list ?_);first|((first|refine J4 H9 own_stM hS ?_ (hv:=by rw[A4o];first|exact c3|exact c2)|refine I7 H9 E5 ?_ (hv:=by first|rfl|exact bvs_getLA|(rw[A4o];first|exact c3|exact c2))|refine J3 H9 own_stM hS ?_ (hv:=by first|(first|exact c3|exact c2)|rfl)|refine I8 H9 E5 ?_ (hv:=by first|exact I6 _ _ A8|(first|exact c3|exact c2)|rfl)|refine J1 H9 ?_ (hv':=by first|exact bvs_getLA|(rw[A4o];first|exact c3|exact c2)))<;>refine I1 ?_))|(refine ZkM ?_;clear hS;intro b w hS)|(refine ZtMm ?_;clear hS;intro w hS)|(refine Zc ?_ ?_<;>intro hc)|((with_reducible refine cons_list ?_);first|(refine J8 H9 own_stM hS ?_ (hv:=P1 _ _);clear hS;intro w hS;refine I1 ?_))|(refine Zg ?_;first|go_step|go_step3|refine Zr ?_)|fail)
      refine A0r hS H8 H8 F3 H8 H8 hr hka ?_
      refine I1 ?_
      refine ZdMm ?_;show _
      refine s_update hS H8 H8 F3 H6 H8 H8 H8 hr H6 ?_
      clear hS
      intro w hS
      refine I1 ?_
      refine ZdMm ?_;intro _ _
      refine A0r hS H8 H8 F3 H8 H8 hr hk2 ?_
      refine I1 ?_
      clear hnew hat hka hk2 hnd hin
      refine ZdMm ?_;show _
      go_roundw
      case rel=>exact⟨k+1,_,by omega,by push_cast;rfl,hD.put _ _,hnd',hin',hat',own_stM.sub hS (fun _ h=>absurd h A5b) List.nodup_nil⟩
      case measure=>first|(simp[intOf];done)|(simp[intOf];omega)
  ·obtain rfl:k=n:=by omega
   have htl:l.take k=l:=A4B H6
   rw[htl] at hnd hin
   clear hat
   by_cases h56:k≤56
   ·refine ZdMm ?_;intro _ _ _
    go_ret
    exact⟨true,rfl,by simp;exact⟨hnd,hin,by omega⟩,hS.1.below⟩
   ·refine ZdMm ?_;intro _ _ _
    go_ret
    exact⟨false,rfl,by simp;exact fun h=>absurd h.2.2 H6,hS.1.below⟩
end
section
open Go.ChangeShapes Go.WideShapes Go.ChangeAt Go.RowKit
attribute [local irreducible] wpList wpListIn Oper.quietAt wpM
section
instance(priority:=2000) instRdX_1:AtT Tryz.prog 39 1 ((zs 128).map bv):=⟨by kernel_rfl⟩
theorem r_neCel{P:Program}{o:Oper}{a:Act}{w:World}{t t' n:Nat}{x y:Operand}{l m:List UInt8}{q:Bool}(hop:o.op=.binOp .neq t x y t')(hx:evO a x=some (.agg (bvs l)))(hy:evO a y=some (.agg (bvs m)))(hb:isBytes P t n=true)(hg:P.eqGuardType P.depth t=false)(hl:l.length=n)(hm:m.length=n)(hq:(!(l == m))=q):(execOp a.eval o).run P w=.ok (.value (.bool q)) w:=by
 unfold execOp;rw[hop];subst hq
 simp only[I3 hx,I3 hy,Sem.run_bind,run_eqGuard_agg w .neq t x y _ _ hg,Result.andThen_ok,run_neq_struct,Z4 hb l m (by rw[I2,hl]) (by rw[I2,hm]) w]
 rfl
end
section
end
section
def lastP(l:List Pt)(a:Int):Option Pt:=l.reverse.find? fun x=>x.1 == a
theorem N7(l:List Pt)(x:Pt)(a:Int):lastP (l++[x]) a=if x.1=a then some x else lastP l a:=by
 unfold lastP
 rw[List.reverse_append,List.reverse_singleton,List.singleton_append,List.find?_cons]
 by_cases h:x.1=a
 ·simp[h]
 ·rw[show (x.1 == a)=false by simpa using h]
  simp[h]
theorem O1{l:List Pt}{a:Int}{x:Pt}(h:lastP l a=some x):x.1=a∧x∈l:=by
 unfold lastP at h
 have h1:=List.find?_some h
 have h2:=List.mem_of_find?_eq_some h
 exact⟨by simpa using h1,List.mem_reverse.1 h2⟩
theorem lastP_mem{l:List Pt}{x:Pt}(h:x∈l):∃y,lastP l x.1=some y:=by
 cases hl:lastP l x.1 with
 | some y=>exact⟨y,rfl⟩
 | none =>
  unfold lastP at hl
  rw[List.find?_eq_none] at hl
  have:=hl x (List.mem_reverse.2 h)
  simp at this
def IsMerge(l R:List Pt):Prop:=R.Pairwise (fun x y=>x.1<y.1)∧∀x,x∈R↔lastP l x.1=some x
theorem sorted_ext:∀{R S:List Pt},R.Pairwise (fun x y=>x.1<y.1)→S.Pairwise (fun x y=>x.1<y.1)→(∀x,x∈R↔x∈S)→R=S
 | [],[],_,_,_=>rfl
 | [],y::S,_,_,h=>absurd ((h y).2 (A4t ..)) A5b
 | x::R,[],_,_,h=>absurd ((h x).1 (A4t ..)) A5b
 | x::R,y::S,hR,hS,h=>by
  rw[List.pairwise_cons] at hR hS
  have hxy:x=y:=by
   rcases A4O.1 ((h x).1 (A4t ..)) with e|e
   ·exact e
   ·rcases A4O.1 ((h y).2 (A4t ..)) with e2|e2
    ·exact e2.symm
    ·have h1:=hS.1 x e
     have h2:=hR.1 y e2
     omega
  subst hxy
  congr 1
  refine sorted_ext hR.2 hS.2 fun z=>?_
  have hz:=h z
  constructor
  ·intro hz1
   rcases A4O.1 (hz.1 (A4A _ hz1)) with e|e
   ·subst e;have:=hR.1 z hz1;omega
   ·exact e
  ·intro hz1
   rcases A4O.1 (hz.2 (A4A _ hz1)) with e|e
   ·subst e;have:=hS.1 z hz1;omega
   ·exact e
theorem isMerge_unique{l R S:List Pt}(h1:IsMerge l R)(h2:IsMerge l S):R=S:=sorted_ext h1.1 h2.1 fun x=>(h1.2 x).trans (h2.2 x).symm
theorem nodup_le:∀{a b:List Int},a.Nodup→(∀x∈a,x∈b)→a.length≤b.length
 | [],b,_,_=>Nat.zero_le _
 | x::a,b,hn,hs=>by
  rw[A5o] at hn
  have hx:=hs x (A4t ..)
  have ih:=nodup_le (a:=a) (b:=b.erase x) hn.2 (fun y hy=>(List.mem_erase_of_ne (fun e=>hn.1 (by rw[←e];exact hy))).2 (hs y (A4A _ hy)))
  rw[List.length_erase_of_mem hx] at ih
  have:=List.length_pos_of_mem hx
  rw[A4G];omega
end
section
theorem sized_2(w0:World):Calls Tryz.prog 158 #[.int .i64 2] w0 fun e w'=>e=.returned (.bool true)∧Below w0.heap.size w0 w':=by
 have hS:=St.start w0
 go_enter Tryz.func158,Tryz.ntmps158
 refine Zdsm ?_;show _
 go_ret
 exact⟨rfl,hS.below⟩
theorem put_2(l:List UInt8)(v:Value)(hv0:l=[]→v=.slice none 0 0)(hm:l.length≤1000)(n:Int)(hn:0≤n∧n≤65535)(w0:World)(hv:BytesAt w0 v l) :
  Calls Tryz.prog 132 #[v,.int .i64 2,.int .i64 n] w0 fun e w'=>∃sv,e=.returned (.tuple #[sv,.nilIface])∧OwnB w0.heap.size w' sv (l++beB (u64W n) 2)∧Below w0.heap.size w0 w':=by
 have hS:=St.start w0
 have hb8:(beB (u64W n) 2).length=2:=K9 _ _
 go_enter Tryz.func132,Tryz.ntmps132
 repeat' (first|refine Zasm ?_|(refine Zks ?_;clear hS;intro b w hS)|(refine Ztsm ?_;clear hS;intro w hS)|(refine Zc ?_ ?_<;>intro hc)|((with_reducible refine cons_list ?_);first|(refine J0 H9 own_st hS (sized_2 _) ?_;clear hS;intro w hS;refine I1 ?_)|(refine Stp.go H9 H8 H8 (r_shrI (i:=2) H8 H8 H8 (by first|rfl|omega) H5 (show n / ((256 ^ 2:Nat):Int)=0 by simp only[Nat.reducePow];omega)) ?_;refine I1 ?_))|(refine Zg ?_;first|go_step|go_step3|refine Zr ?_)|fail)
 refine I9 H9 H8 H8 H8 H8 H8 G2 (cloneB v l hv0 H6 _ (hv.below hS.below)) ?_
 rintro e w1 ⟨sv,rfl,ho,hB⟩
 refine⟨_,rfl,?_⟩
 refine I1 ?_
 obtain⟨Lr,hR,hS2⟩:=ho.join hS hB
 replace hS:=hS2
 clear hS2 ho hB
 refine Zdsm ?_;show _
 refine I9 H9 H8 H8 H8 H8 H8 G2 (growB l sv Lr [] hR 2 H6 H6 _ _ hS) ?_
 rintro e w2 ⟨sv2,Lr2,rfl,hR2,hS2⟩
 refine⟨_,rfl,?_⟩
 refine I1 ?_
 replace hS:=hS2
 clear hS2 hR
 refine Zdsm ?_;intro _ _
 go_loopw [8,9] (fun u8 u9 wr=>∃(k:Nat)(Lr:List Blk),k≤2∧u9=.int .i64 (1 - (k:Int))∧BL (l++(beB (u64W n) 2).take k) u8 Lr∧St w0 wr Lr) (fun _ u9 _=>(intOf u9+1).toNat)
 case atStart=>exact⟨0,Lr2,by omega,rfl,by rw[A4Y,A4S];exact hR2,by rwa [A4S] at hS⟩
 case round =>
  obtain⟨k,Lr,hk,rfl,hR,hS⟩:=hrel
  obtain⟨p2,c2,rfl⟩:=hR.slice
  have hll:(l++(beB (u64W n) 2).take k).length≤2000:=by rw[A4p,A4u];omega
  by_cases hlt:k<2
  ·obtain⟨i,hi⟩:∃i:Nat,1 - (k:Int)=(i:Int):=⟨1 - k,by omega⟩
   rw[hi]
   have hi8:i<8:=by omega
   have hby:=byte_at n hi8
   obtain⟨q,hq⟩:∃q,n / ((256 ^ i:Nat):Int)=q:=⟨_,rfl⟩
   rw[hq] at hby
   repeat' (first|refine Zasm ?_|(refine Zks ?_;clear hS;intro b w hS)|(refine Ztsm ?_;clear hS;intro w hS)|(refine Zc ?_ ?_<;>intro hc)|((with_reducible refine cons_list ?_);first|(refine Stp.go H9 H8 H8 (r_shrI H8 H8 H8 (by first|rfl|omega) hi8 hq) ?_;refine I1 ?_)|(refine Stp.go H9 H8 H8 (r_convQ H8 H8 G2 G2 hby) ?_;refine I1 ?_))|(refine Zg ?_;first|go_step|go_step3|refine Zr ?_)|fail)
   refine s_appB (L:=[]) (z:=UInt8.ofNat (u64W n / 256 ^ i)) (by rwa [A4S]) hR H6 H8 H8 H8 H8 ?_
   intro sv' Lr' w' hR' hS'
   rw[A4S] at hS'
   rw[A4E,←beB_next (m:=2) (u64W n) hlt H6] at hR'
   obtain⟨p3,c3,rfl⟩:=hR'.slice
   refine I1 ?_
   replace hS:=hS'
   clear hS' hR
   refine Zdsm ?_;show _
   go_roundw
   case rel=>exact⟨k+1,Lr',by omega,by rw[←hi];push_cast;congr 1;omega,hR',hS⟩
   case measure=>first|(simp[intOf];done)|(simp[intOf];omega)
  ·obtain rfl:k=2:=by omega
   rw[A4B H6] at hR hll ⊢
   refine Zdsm ?_;intro _ _ _
   go_ret2
   exact⟨_,rfl,hR.own hS (fun x hx=>hx),hS.below⟩
theorem fillG(l:List UInt8)(hl:l.length≤128)(v:Value)(w0:World)(hv:BytesAt w0 v l) :
  Calls Tryz.prog 66 #[v] w0 fun e w'=>e=.returned (.tuple #[.agg (bvs (l++zs (128 - l.length))),.nilIface])∧Below w0.heap.size w0 w':=by
 obtain⟨p,c,rfl,hc⟩:=hv.slice
 have hS:=St.start w0
 have l1:l.take 128=l:=A4B hl
 have s1:csz (bvs (l++zs (128 - l.length)))=128:=by rw[I2,A4p,zs_len];omega
 go_enter Tryz.func66,Tryz.ntmps66
 refine Zdsm ?_;clear hS;intro _ b w b w hS _ _
 refine U5 (i:=0) H9 own_st hS H8 H8 H8 H8 G2 H8 (hv.below hS.below) (by rw[l1,I2,zs_len];omega) (cs2:=bvs (l++zs (128 - l.length))) (by
  rw[O4,l1,A4Y,A4x];congr 2;unfold zs;rw[A5A,A4D]) B0 rfl ?_
 clear hS
 intro w hS
 refine I1 ?_
 refine Zdsm ?_;clear hS;intro w hS
 exact L3 (n:=128) Tryz.results66 G8 (.inl rfl) _ _ _ _ rfl rfl (hS.blk 1 rfl) (by rw[←K3];exact s1) ⟨rfl,hS.below⟩
end
section
attribute [local irreducible] shaL
end
section
attribute [local irreducible] tagL
def firstT(n:Int)(l:List Pt):List UInt8:=beB (u64W n) 8++(beB l.length 2++l.flatMap fun x=>beB (u64W x.1) 2)
def firstC(n:Int)(l:List Pt):List UInt8:=firstT n l++zs (128 - (firstT n l).length)
theorem nums_len:∀l:List Pt,(l.flatMap fun x=>beB (u64W x.1) 2).length=2*l.length
 | []=>rfl
 | x::l=>by rw[A5n,A4p,K9,nums_len l,A4G];omega
theorem firstT_len(n:Int)(l:List Pt):(firstT n l).length=10+2*l.length:=by
 unfold firstT
 rw[A4p,A4p,K9,K9,nums_len];omega
theorem nums_next{l:List Pt}{k:Nat}{x:Pt}(h:l[k]?=some x):((l.take (k+1)).flatMap fun x=>beB (u64W x.1) 2)=((l.take k).flatMap fun x=>beB (u64W x.1) 2)++beB (u64W x.1) 2:=by
 rw[A5S,h,List.flatMap_append]
 simp
theorem first_any(n:Int)(l:List Pt)(hs:soundP l)(v:Value)(w0:World)(hv:PutsAt w0 v l) :
  Calls Tryz.prog 93 #[.int .i64 n,v] w0 fun e w'=>e=.returned (.tuple #[.agg (bvs (firstC n l)),.nilIface])∧Below w0.heap.size w0 w':=by
 obtain⟨ho,p,c,rfl,hc,hp0,hcell⟩:=hv
 have hS:=St.start w0
 have hTl:=firstT_len n l
 have hFC:firstC n l=firstT n l++zs (128 - (firstT n l).length):=rfl
 have hTT:firstT n l=(beB (u64W n) 8++beB l.length 2)++l.flatMap fun x=>beB (u64W x.1) 2:=by unfold firstT;rw[A4E]
 have h8:=K9 (u64W n) 8
 have h2:=K9 l.length 2
 obtain⟨hs1,hs2,hs3⟩:=hs
 obtain⟨q,hq⟩:∃q,l.length=q:=⟨_,rfl⟩
 have hu:u64W (q:Int)=q:=by unfold u64W;omega
 rw[hq] at hc h2 hTT hTl hs3 ⊢
 obtain⟨A,hA⟩:∃A,beB (u64W n) 8=A:=⟨_,rfl⟩
 have hp8:=fun w=>put_8 [] (.slice none 0 0) (fun _=>rfl) H7 n w ⟨none,0,rfl,A4C _,fun _=>rfl,fun h=>absurd rfl h⟩
 rw[A4x,hA] at hp8
 rw[hA] at h8 hTT
 have s128:csz (bvs (zs 128))=128:=by rw[I2,zs_len]
 go_enter Tryz.func93,Tryz.ntmps93
 refine Zdsm ?_;clear hS;intro _ b w hS _ _
 refine I9 H9 H8 H8 H8 H8 H8 G2 (hp8 _) ?_
 rintro e w1 ⟨sv,rfl,hO,hB⟩
 refine⟨_,rfl,?_⟩
 refine I1 ?_
 obtain⟨Lr,hR,hS2⟩:=hO.join hS hB
 replace hS:=hS2
 clear hS2 hO hB
 refine Zdsm ?_;intro _ _
 have hbA:=hR.inn hS (fun x hx=>A5R _ hx)
 refine I9 H9 H8 H8 H8 H8 H8 G2 (put_2 A sv (fun e=>by rw[e] at h8;cases h8) H6 (q:Int) H6 _ hbA) ?_
 rintro e w2 ⟨sv2,rfl,hO,hB⟩
 rw[hu] at hO
 refine⟨_,rfl,?_⟩
 refine I1 ?_
 obtain⟨bR,hbR⟩:∃x,x=b:=⟨_,rfl⟩
 rw[←hbR] at hS ⊢
 clear hbR
 have hS3:St w0 w1 [(bR,bvs (zs 128),39)]:=own_st.sub hS (fun x hx=>A4X _ hx) H7
 clear hS hR hbA
 obtain⟨Lr2,hR,hS⟩:=hO.join hS3 hB
 clear hS3 hO hB
 refine Zdsm ?_;intro _ _
 go_loopw [6,7,8] (fun u6 u7 u8 wr=>∃(k:Nat)(Lr:List Blk),k≤q∧u8=.int .i64 (k:Int)∧u7=.nilIface∧BL ((A++beB q 2)++(l.take k).flatMap fun x=>beB (u64W x.1) 2) u6 Lr∧St w0 wr (Lr++[(bR,bvs (zs 128),39)])) (fun _ _ u8 _=>q - (intOf u8).toNat)
 case atStart=>exact⟨0,Lr2,by omega,rfl,rfl,by rw[A4Y,List.flatMap_nil,A4S];exact hR,hS⟩
 case round =>
  clear hS hR
  obtain⟨k,Lr,hk,rfl,rfl,hR,hS⟩:=hrel
  have hlk:((A++beB q 2)++(l.take k).flatMap fun x=>beB (u64W x.1) 2).length=10+2*k:=by
   rw[A4p,A4p,h8,h2,nums_len,A4u];omega
  by_cases hlt:k<q
  ·obtain⟨⟨a,C⟩,hx⟩:∃x,l[k]?=some x:=⟨_,A4y H6⟩
   obtain⟨b,o,cs,ty,fr,rfl,hb,hcc⟩:=hcell (by intro e;rw[e] at hq;simp at hq;omega)
   obtain⟨lC,c1,c2,c3,c4⟩:=put_cells ho hcc hx
   have hin:=hs2 _ (A5a hx)
   have hnx:=nums_next hx
   dsimp only at hnx hin
   obtain⟨T,hTk⟩:∃T,((A++beB q 2)++(l.take k).flatMap fun x=>beB (u64W x.1) 2)=T:=⟨_,rfl⟩
   rw[hTk] at hR hlk
   have hbT:=hR.inn hS (fun x hx=>A5R _ hx)
   have hin2:0≤a∧a≤65535:=hin
   repeat' (first|refine Zbsm ?_|((with_reducible refine cons_list ?_);first|((first|refine J4 H9 own_st hS ?_ (hv:=by rw[A4o];exact c3)|refine I7 H9 E5 ?_ (hv:=by first|rfl|exact bvs_getLA|(rw[A4o];exact c3))|refine J3 H9 own_st hS ?_ (hv:=by first|(exact c3)|rfl)|refine I8 H9 E5 ?_ (hv:=by first|exact I6 _ _ A8|(exact c3)|rfl)|refine J1 H9 ?_ (hv':=by first|exact bvs_getLA|(rw[A4o];exact c3)))<;>refine I1 ?_))|(refine Zks ?_;clear hS;intro b w hS)|(refine Ztsm ?_;clear hS;intro w hS)|(refine Zc ?_ ?_<;>intro hc)|(refine Zg ?_;first|go_step|go_step3|refine Zr ?_)|fail)
   refine I9 H9 H8 H8 H8 H8 H8 G2 (put_2 T _ (fun e=>by rw[e] at hlk;simp at hlk;omega) H6 a hin2 _ hbT) ?_
   rintro e w3 ⟨sv3,rfl,hO,hB⟩
   refine⟨_,rfl,?_⟩
   refine I1 ?_
   have hS3:St w0 wr [(bR,bvs (zs 128),39)]:=own_st.sub hS (fun x hx=>A4X _ hx) H7
   clear hS hR hbT
   obtain⟨Lr3,hR,hS⟩:=hO.join hS3 hB
   clear hS3 hO hB
   refine Zdsm ?_;show _
   go_roundw
   case rel=>exact⟨k+1,Lr3,by omega,by push_cast;rfl,rfl,by rw[hnx,←A4E,hTk];exact hR,hS⟩
   case measure=>first|(simp[intOf];done)|(simp[intOf];omega)
  ·obtain rfl:k=q:=by omega
   rw[A4B H6,←hTT] at hR
   have hbT:=hR.inn hS (fun x hx=>A5R _ hx)
   have sF:csz (bvs (firstC n l))=128:=by rw[hFC,I2,A4p,zs_len,hTl];omega
   have lF:(firstC n l).length=128:=by rw[hFC,A4p,zs_len,hTl];omega
   have hfill:=fillG (firstT n l) H6 _ _ hbT
   rw[←hFC] at hfill
   obtain⟨Y,hY⟩:∃Y,firstC n l=Y:=⟨_,rfl⟩
   rw[hY] at hfill sF lF
   have hS3:St w0 wr [(bR,bvs (zs 128),39)]:=own_st.sub hS (fun x hx=>A4X _ hx) H7
   clear hS
   have hS:=hS3
   clear hS3
   repeat' (first|refine Zasm ?_|(refine Zks ?_;clear hS;intro b w hS)|(refine Ztsm ?_;clear hS;intro w hS)|(refine Zc ?_ ?_<;>intro hc)|((with_reducible refine cons_list ?_);first|(refine J0 H9 own_st hS (hfill) ?_;clear hS;intro w hS;refine I1 ?_))|(refine Zg ?_;first|go_step|go_step3|refine Zr ?_)|fail)
   exact L3 (n:=128) Tryz.results93 G8 (.inl rfl) _ _ _ _ rfl rfl (hS.blk 0 rfl) (by rw[←K3];exact sF) ⟨by rw[hY];rfl,hS.below⟩
end
section
attribute [local irreducible] tagL
def pvR(b o i:Nat):Value:=.slice (some ⟨b,o+i*129+1,none⟩) 128 128
def bodyL(l:List Pt):List UInt8:=l.flatMap (·.2)
def tagC(key C:List UInt8)(l:List Pt):List UInt8:=tagL key (C++bodyL l)++zs 96
theorem A1G(key C:List UInt8)(l:List Pt):(tagC key C l).length=128:=by unfold tagC;rw[A4p,O5,zs_len]
theorem A2S:∀{l:List Pt},okP l→(bodyL l).length=128*l.length
 | [],_=>rfl
 | x::l,h=>by
  have ih:=A2S (l:=l) (fun y hy=>h y (A4A _ hy))
  unfold bodyL at ih ⊢
  rw[A5n,A4p,ih,(h x (A4t ..)).1,A4G];omega
theorem flat_body(C:List UInt8)(l:List Pt):(C::l.map (·.2)).flatten=C++bodyL l:=by
 rw[List.flatten_cons]
 congr 1
theorem parts_of{w:World}{b o:Nat}{cs:Array Value}{t:TypeId}{fr:Nat × Nat}{l:List Pt}(hb:blk w b=some (.cells cs t fr))(ho:okP l)(hc:∀j x,(putsC l)[j]?=some x→cs[o+j]?=some x):PartsAt w ((List.range l.length).map (pvR b o)) (l.map (·.2)):=by
 refine⟨by simp,fun i v m hi hm=>?_⟩
 rw[A4U] at hi hm
 cases hx:l[i]? with
 | none=>rw[hx] at hm;cases hm
 | some x =>
  rw[hx] at hm
  simp at hm
  subst hm
  obtain⟨a,C⟩:=x
  have hil:=(A4v.1 hx).1
  rw[A6D hil] at hi
  simp at hi
  subst hi
  obtain⟨lC,c1,c2,c3,c4⟩:=put_cells ho hc hx
  refine⟨O7 hb lC (A4C _) (fun j x hj=>?_),by intro e;dsimp only at e;rw[e] at lC;cases lC⟩
  obtain⟨hj1,rfl⟩:=A4v.1 hj
  have hj3:j<C.length:=hj1
  have hj2:j<128:=by omega
  have:=c4 j hj2
  rw[this,A4R,A4y hj1]
  rfl
theorem range_snoc(b o k:Nat):(List.range (k+1)).map (pvR b o)=(List.range k).map (pvR b o)++[pvR b o k]:=by rw[List.range_succ,A4N];rfl
theorem rdTag_any(key C:List UInt8)(hk:key.length≤1000000)(hC:C.length=128)(l:List Pt)(hl:l.length≤100)(kv v:Value)(w0:World)(hkv:BytesAt w0 kv key)(hv:PutsAt w0 v l) :
  Calls Tryz.prog 94 #[kv,.agg (bvs C),v] w0 fun e w'=>e=.returned (.agg (bvs (tagC key C l)))∧Below w0.heap.size w0 w':=by
 obtain⟨ho,p,c,rfl,hc,hp0,hcell⟩:=hv
 have hS:=St.start w0
 have sC:csz (bvs C)=128:=by rw[I2,hC]
 have s128:csz (bvs (zs 128))=128:=by rw[I2,zs_len]
 have hbl:=A2S ho
 have hCne:C≠[]:=by intro e;rw[e] at hC;cases hC
 obtain⟨q,hq⟩:∃q,l.length=q:=⟨_,rfl⟩
 -- where the puts lie
 obtain⟨b0,o0,hpl⟩:∃b0 o0,(0<q→p=some ⟨b0,o0,none⟩∧∃cs t fr,blk w0 b0=some (.cells cs t fr)∧∀j x,(putsC l)[j]?=some x→cs[o0+j]?=some x):=by
  by_cases hne:l=[]
  ·exact⟨0,0,fun h=>by rw[hne] at hq;simp at hq;omega⟩
  ·obtain⟨b,o,cs,t,fr,h1,h2,h3⟩:=hcell hne
   exact⟨b,o,fun _=>⟨h1,cs,t,fr,h2,h3⟩⟩
 have hparts:PartsAt w0 ((List.range q).map (pvR b0 o0)) (l.map (·.2)):=by
  by_cases hne:l=[]
  ·subst hne;simp at hq;subst hq;exact PartsAt.nil w0
  ·have h0:0<q:=by rw[←hq];exact A6L.2 hne
   obtain⟨_,cs,t,fr,h2,h3⟩:=hpl h0
   rw[←hq];exact parts_of h2 ho h3
 rw[hq] at hc hl hbl ⊢
 have hG:=O5 key (C++bodyL l)
 have hTG:tagC key C l=tagL key (C++bodyL l)++zs 96:=rfl
 go_enter Tryz.func94,Tryz.ntmps94
 refine Zdsm ?_;clear hS;intro _ b w b w b w hS _ _
 rename_i bC y0 bR y1 KK hKK
 go_loopw [7,8,15] (fun u7 u8 u15 wr=>∃(k g c:Nat)(sp:List Value),k≤q∧u15=.int .i64 (k:Int)∧u7=.slice (some ⟨g,0,none⟩) (k+1) c∧k+1≤c∧c≤maxLen∧sp.length=c - (k+1)∧St w0 wr [(g,((.slice (some ⟨bC,0,none⟩) 128 128::(List.range k).map (pvR b0 o0))++sp).toArray,63),(bR,bvs (zs 128),39),(bC,bvs C,39)]) (fun _ _ u15 _=>q - (intOf u15).toNat)
 case atStart=>exact⟨0,b,1,[],by omega,rfl,rfl,by omega,by decide,rfl,hS⟩
 case round =>
  clear hS
  obtain⟨k,g,c2,sp,hk2,rfl,rfl,k1,k2,k3,hS⟩:=hrel
  have k2':=k2
  unfold maxLen at k2'
  by_cases hlt:k<q
  ·obtain⟨rfl,cs,t,fr,hb,hcc⟩:=hpl H6
   have hpv:pvR b0 o0 k=.slice (some ⟨b0,o0+k*129+1,none⟩) 128 128:=rfl
   refine Zysm ?_;clear hS;intro _ _ _ b w hS
   refine U2 H9 own_st hS H8 H8 H8 H8 G2 (by exact at_ 1 rfl) (olds:=.slice (some ⟨bC,0,none⟩) 128 128::(List.range k).map (pvR b0 o0)) (spare:=sp) H8 H7 k1 (by rw[k3,A5x]) (xs:=[pvR b0 o0 k]) (Z3 (hS.blk 0 rfl) (fun j v h=>by rw[A4D];exact h)) H8 (by intro v hv;simp at hv;subst hv;rfl) F6 (nm:=k+1+1) H6 ?_
   clear hS
   intro b' c' sp' w' q1 q2 q3 hS
   replace hS:St w0 w' [(b',((.slice (some ⟨bC,0,none⟩) 128 128::(List.range (k+1)).map (pvR b0 o0))++sp').toArray,63),(bR,bvs (zs 128),39),(bC,bvs C,39)]:=by
    have:=hS.erase 1
    rw[range_snoc]
    exact this
   refine I1 ?_
   refine Zdsm ?_;show _
   go_roundw
   case rel=>exact⟨k+1,b',c',sp',by omega,by push_cast;rfl,rfl,q1,q2,by rw[q3,A5x],hS⟩
   case measure=>first|(simp[intOf];done)|(simp[intOf];omega)
  ·obtain rfl:k=q:=by omega
   have hps:=PartsAt.cons (J9 (hS.blk 2 rfl) hC) hCne (hparts.below hS.below)
   have htg:=A3c key hk kv _ (C::l.map (·.2)) H7 (by rw[flat_body,A4p];omega) g 0 c2 _ _ _ _ (hkv.below hS.below) hps (hS.blk 0 rfl) (fun j v h=>by
    rw[A4D,A4w,A4M (A4v.1 h).1];exact h) G7
   rw[flat_body,show (C::l.map (·.2)).length=k+1 by simp[hq]] at htg
   obtain⟨G,hGG⟩:∃G,tagL key (C++bodyL l)=G:=⟨_,rfl⟩
   rw[hGG] at htg hG hTG
   have sG:csz (bvs G)=32:=by rw[I2,hG]
   have sZ:csz (bvs (zs 32))=32:=by rw[I2,zs_len]
   have sF:csz (bvs (G++zs 96))=128:=by rw[I2,A4p,hG,zs_len]
   have lF:(G++zs 96).length=128:=by rw[A4p,hG,zs_len]
   have hov:ovw (bvs (zs 128)) 0 (G.take 128)=bvs (G++zs 96):=by
    rw[A4B (l:=G) H6,O4,A4Y,A4x,hG]
    congr 2
    unfold zs;rw[A5A]
   replace hS:=hS.erase 0
   repeat' (first|refine Zasm ?_|(refine Zks ?_;clear hS;intro b w hS)|(refine Ztsm ?_;clear hS;intro w hS)|(refine Zc ?_ ?_<;>intro hc)|((with_reducible refine cons_list ?_);first|(refine J0 H9 own_st hS (htg) ?_;clear hS;intro w hS;refine I1 ?_))|(refine Zg ?_;first|go_step|go_step3|refine Zr ?_)|fail)
   refine I5 2 G8 G8 ?_
   dsimp only[List.take,List.drop]
   iterate 2 (first|refine ZQm ?_|refine ZQs ?_|refine ZQa ?_|refine ZQz ?_)
   refine Zn own_st hS ?_
   clear hS
   intro pB w hS
   try dsimp only
   refine U5 (i:=0) H9 own_st hS H8 H8 H8 H8 G2 H8 (J9 (hS.blk 1 rfl) hG) (by rw[A4u,s128];omega) hov B0 rfl ?_
   clear hS
   intro w hS
   obtain⟨Y,hY⟩:∃Y,G++zs 96=Y:=⟨_,rfl⟩
   rw[hY] at hS sF lF hTG
   refine I1 ?_
   refine Zdsm ?_;clear hS;intro w hS
   exact J6 (n:=128) Tryz.results94 G8 (.inl rfl) _ _ _ _ rfl rfl (hS.blk 2 rfl) (by rw[←K3];exact sF) ⟨by rw[hTG],hS.below⟩
end
section
attribute [local irreducible] tagL
theorem rdSound_t(l:List Pt)(hl:l.length≤1000)(hs:soundP l)(v:Value)(w0:World)(hv:PutsAt w0 v l):Calls Tryz.prog 92 #[v] w0 fun e w'=>e=.returned (.bool true)∧Below w0.heap.size w0 w':=by
 refine(rdSound_any l hl v w0 hv).mono ?_
 rintro e w' ⟨b,rfl,h,hB⟩
 exact⟨by rw[h.2 hs],hB⟩
theorem rdSound_f(l:List Pt)(hl:l.length≤1000)(hs:¬soundP l)(v:Value)(w0:World)(hv:PutsAt w0 v l):Calls Tryz.prog 92 #[v] w0 fun e w'=>e=.returned (.bool false)∧Below w0.heap.size w0 w':=by
 refine(rdSound_any l hl v w0 hv).mono ?_
 rintro e w' ⟨b,rfl,h,hB⟩
 cases b with
 | false=>exact⟨rfl,hB⟩
 | true=>exact absurd (h.1 rfl) hs
def encL(key:List UInt8)(n:Int)(l:List Pt):List UInt8:=firstC n l++(tagC key (firstC n l) l++bodyL l)
theorem W7(n:Int){l:List Pt}(h:l.length≤56):(firstC n l).length=128:=by unfold firstC;rw[A4p,zs_len,firstT_len];omega
theorem encode_bad(n:Int)(l:List Pt)(hl:l.length≤1000)(hbad:n<0∨¬soundP l)(kv v:Value)(w0:World)(hv:PutsAt w0 v l) :
  Calls Tryz.prog 54 #[kv,.int .i64 n,v] w0 fun e w'=>e=.returned (.tuple #[.slice none 0 0,.iface 54 (.int .i64 2)])∧Below w0.heap.size w0 w':=by
 have hS:=St.start w0
 by_cases hn:n<0
 ·go_enter Tryz.func54,Tryz.ntmps54
  refine Zdsm ?_;intro _ _ _
  go_ret2
  exact⟨rfl,hS.below⟩
 ·have hs:¬soundP l:=by
   rcases hbad with h|h
   ·exact absurd h hn
   ·exact h
  have hsd:=fun w hv=>rdSound_f l hl hs v w hv
  go_enter Tryz.func54,Tryz.ntmps54
  repeat' (first|refine Zasm ?_|(refine Zks ?_;clear hS;intro b w hS)|(refine Ztsm ?_;clear hS;intro w hS)|(refine Zc ?_ ?_<;>intro hc)|((with_reducible refine cons_list ?_);first|(refine J0 H9 own_st hS (hsd _ (hv.below hS.below)) ?_;clear hS;intro w hS;refine I1 ?_))|(refine Zg ?_;first|go_step|go_step3|refine Zr ?_)|fail)
  go_ret2
  exact⟨rfl,hS.below⟩
theorem encode_good(key:List UInt8)(hk:key.length≤1000000)(n:Int)(hn:0≤n)(l:List Pt)(hs:soundP l)(kv v:Value)(w0:World)(hkv:BytesAt w0 kv key)(hv:PutsAt w0 v l) :
  Calls Tryz.prog 54 #[kv,.int .i64 n,v] w0 fun e w'=>∃g c sp,e=.returned (.tuple #[.slice (some ⟨g,0,none⟩) (l.length+2) c,.nilIface])∧l.length+2≤c∧c≤maxLen∧sp.length=(c - (l.length+2))*128∧w0.heap.size≤g∧blk w' g=some (.cells ((encL key n l).map bv++sp).toArray 39 (0,0))∧Below w0.heap.size w0 w':=by
 have hS:=St.start w0
 have h56:=hs.2.2
 have hn':¬n<0:=by omega
 have hsd:=fun w hv=>rdSound_t l H6 hs v w hv
 have hfi:=fun w hv=>first_any n l hs v w hv
 have lF:=W7 n h56
 have hE:encL key n l=firstC n l++(tagC key (firstC n l) l++bodyL l):=rfl
 have htg:=fun w h1 h2=>rdTag_any key (firstC n l) hk lF l H6 kv v w h1 h2
 have lT:=A1G key (firstC n l) l
 obtain⟨Y,hY⟩:∃Y,firstC n l=Y:=⟨_,rfl⟩
 rw[hY] at hfi lF hE htg lT
 obtain⟨T,hT⟩:∃T,tagC key Y l=T:=⟨_,rfl⟩
 rw[hT] at hE htg lT
 clear hY hT
 have sY:csz (bvs Y)=128:=by rw[I2,lF]
 have sT:csz (bvs T)=128:=by rw[I2,lT]
 have s128:csz (bvs (zs 128))=128:=by rw[I2,zs_len]
 obtain⟨ho,p,c,rfl,hc,hp0,hcell⟩:=id hv
 obtain⟨q,hq⟩:∃q,l.length=q:=⟨_,rfl⟩
 rw[hq] at hc h56 hv hsd hfi htg ⊢
 go_enter Tryz.func54,Tryz.ntmps54
 repeat' (first|refine Zasm ?_|(refine Zks ?_;clear hS;intro b w hS)|(refine Ztsm ?_;clear hS;intro w hS)|(refine Zc ?_ ?_<;>intro hc)|((with_reducible refine cons_list ?_);first|(refine J0 H9 own_st hS (hsd _ (hv.below hS.below)) ?_;clear hS;intro w hS;refine I1 ?_)|(refine J0 H9 own_st hS (hfi _ (hv.below hS.below)) ?_;clear hS;intro w hS;refine I1 ?_))|(refine Zg ?_;first|go_step|go_step3|refine Zr ?_)|fail)
 refine I5 5 G8 G8 ?_
 dsimp only[List.take,List.drop]
 iterate 5 (first|(refine Zw ?_;apply Exists.intro;refine⟨fun pB w' hw' hF=>?_,?_⟩;(focus (have hZ:=(own_st).call hS hw';first|exact(K6 (htg _ (hkv.below hZ.below) (hv.below hZ.below)))));refine Zo ?_)|refine ZQm ?_|refine ZQs ?_|refine ZQa ?_|refine ZQz ?_)
 refine Zn own_st hS ?_
 clear hS
 intro pB w hS
 try dsimp only
 refine X5 H9 own_st hS ?_ (h1:=by
  intro v hv
  simp only[A4O,A5b,or_false] at hv
  rcases hv with rfl|rfl
  ·show (bvs Y).size=128
   rw[←K3];exact sY
  ·show (bvs T).size=128
   rw[←K3];exact sT)
 clear hS
 intro b w hS
 refine I1 ?_
 have e0:((bvs Y).toList++(bvs T).toList).toArray=((Y++(T++bodyL (l.take 0))).map bv++[]).toArray:=by simp[bvs,bodyL]
 have s2:csz (hdV 0 (zs 128))=129:=by rw[L6,zs_len]
 refine Zdsm ?_;intro _ _
 go_loopw [10,12,38] (fun u10 u12 u38 wr=>∃(k g c:Nat)(sp:List Value),k≤q∧u38=.int .i64 (k:Int)∧u10=.slice (some ⟨g,0,none⟩) (k+2) c∧k+2≤c∧c≤maxLen∧sp.length=(c - (k+2))*128∧St w0 wr [(g,((Y++(T++bodyL (l.take k))).map bv++sp).toArray,39)]) (fun _ _ u38 _=>q - (intOf u38).toNat)
 case atStart=>exact⟨0,b,2,[],by omega,rfl,rfl,by omega,by decide,rfl,by rw[←e0];exact hS.take 1⟩
 case round =>
  clear hS
  obtain⟨k,g,c2,sp,hk2,rfl,rfl,k1,k2,k3,hS⟩:=hrel
  have k2':=k2
  unfold maxLen at k2'
  by_cases hlt:k<q
  ·obtain⟨⟨a,C⟩,hx⟩:∃x,l[k]?=some x:=⟨_,A4y H6⟩
   obtain⟨b0,o0,cs,ty,fr,rfl,hb,hcc⟩:=hcell (by intro e;rw[e] at hq;simp at hq;omega)
   obtain⟨lC,d1,d2,d3,d4⟩:=put_cells ho hcc hx
   have s1:csz (hdV a C)=129:=by rw[L6,lC]
   have sC:csz (bvs C)=128:=by rw[I2,lC]
   have hcut:cut (hdV a C) 1 128=bvs C:=by
    have:=hd_cut a (B:=C) (o:=0) (m:=128) H6
    rwa [A5V,A4B H6] at this
   have hbd:bodyL (l.take (k+1))=bodyL (l.take k)++C:=by
    unfold bodyL
    rw[A5S,hx,List.flatMap_append]
    simp
   have hlk:(Y++(T++bodyL (l.take k))).length=(k+2)*128:=by
    rw[A4p,A4p,lF,lT,A2S (fun x hx'=>ho x (A6A hx')),A4u];omega
   obtain⟨Z,hZ⟩:∃Z,Y++(T++bodyL (l.take k))=Z:=⟨_,rfl⟩
   rw[hZ] at hS hlk
   have hZ2:Z++C=Y++(T++bodyL (l.take (k+1))):=by rw[hbd,←hZ];simp only[A4E]
   repeat' (first|((with_reducible refine cons_list ?_);first|(refine J8 H9 own_st hS ?_ (hv:=P1 _ _);clear hS;intro w hS;refine I1 ?_)|(refine X5 H9 own_st hS ?_ (h1:=by intro v hv;simp only[A4O,A5b,or_false] at hv;subst hv;show (bvs C).size=128;rw[←K3];exact sC);clear hS;intro b w hS;refine I1 ?_))|refine Zbsm ?_|((with_reducible refine cons_list ?_);first|((first|refine J4 H9 own_st hS ?_ (hv:=by rw[A4o];first|exact d2|exact hcut)|refine I7 H9 E5 ?_ (hv:=by first|rfl|exact bvs_getLA|(rw[A4o];first|exact d2|exact hcut))|refine J3 H9 own_st hS ?_ (hv:=by first|(first|exact d2|exact hcut)|rfl)|refine I8 H9 E5 ?_ (hv:=by first|exact I6 _ _ A8|(first|exact d2|exact hcut)|rfl)|refine J1 H9 ?_ (hv':=by first|exact bvs_getLA|(rw[A4o];first|exact d2|exact hcut)))<;>refine I1 ?_))|(refine Zks ?_;clear hS;intro b w hS)|(refine Ztsm ?_;clear hS;intro w hS)|(refine Zc ?_ ?_<;>intro hc)|(refine Zg ?_;first|go_step|go_step3|refine Zr ?_)|fail)
   refine U2 H9 own_st hS H8 H8 H8 H8 G2 (by exact at_ 2 rfl) (olds:=Z.map bv) (spare:=sp) H8 (by rw[A4z,hlk]) k1 k3 (xs:=C.map bv) (Z3 (hS.blk 0 rfl) (fun j v h=>by rw[A4D];exact h)) (by rw[A4z,lC]) (A1V C) F6 (nm:=k+1+2) H6 ?_
   clear hS
   intro b' c' sp' w' q1 q2 q3 hS
   rw[←A4N,hZ2] at hS
   replace hS:=hS.take 1
   refine I1 ?_
   refine Zdsm ?_;show _
   go_roundw
   case rel=>exact⟨k+1,b',c',sp',by omega,by push_cast;rfl,rfl,q1,q2,q3,hS⟩
   case measure=>first|(simp[intOf];done)|(simp[intOf];omega)
  ·obtain rfl:k=q:=by omega
   have htl:l.take k=l:=A4B H6
   rw[htl] at hS
   refine Zdsm ?_;intro _ _ _
   go_ret2
   exact⟨g,c2,sp,rfl,k1,k2,k3,hS.low 0 rfl,by rw[hE];exact hS.blk 0 rfl,hS.below⟩
end
section
end
section
attribute [local irreducible] shaL pieceL
end
end
end Go.Proofs.YtggbbafanhceaaaGreatRR
