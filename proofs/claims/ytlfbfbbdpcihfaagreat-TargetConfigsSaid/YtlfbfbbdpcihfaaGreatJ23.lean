/- Laws that the claim uses. No condition of their own. -/
import Derived.Test.YtlfbfbbdpcihfaaGreatJ22
set_option maxRecDepth 100000
set_option maxHeartbeats 8000000
set_option linter.all false
namespace Go.Proofs.YtlfbfbbdpcihfaaGreat
section
open Go.ChangeShapes Go.WideShapes Go.ChangeAt Go.RowKit
attribute [local irreducible] wpList wpListIn Oper.quietAt wpM
open Go.Maps
abbrev Pt:=Int × List UInt8
def putC(x:Pt):List Value:=.int .i64 x.1::x.2.map bv
def putsC(l:List Pt):List Value:=l.flatMap putC
def okP(l:List Pt):Prop:=∀x∈l,x.2.length=128/\(-9223372036854775808<=x.1/\x.1<=9223372036854775807)
theorem O4{x:Pt}(h:x.2.length=128):(putC x).length=129:=by unfold putC;rw[A3D,A3u,h]
theorem putsC_len:∀{l:List Pt},okP l->(putsC l).length=l.length*129
 | [],_=>rfl
 | x::l,h=>by
  unfold putsC
  rw[A4A,A3k,O4 (h x (A3m ..)).1]
  have:=putsC_len (l:=l) (fun y hy=>h y (A3l _ hy))
  unfold putsC at this
  rw[this,A3D]
  omega
theorem putsC_at:∀{l:List Pt},okP l->∀{k:Nat}{x:Pt},l[k]?=some x->((putsC l).drop (k*129)).take 129=putC x
 | [],_,k,x,h=>by simp at h
 | y::l,h,0,x,hx=>by
  simp at hx;subst hx
  unfold putsC
  rw[A4A,A4E,A4Y,A4x (O4 (h y (A3m ..)).1)]
 | y::l,h,k+1,x,hx=>by
  have ih:=putsC_at (l:=l) (fun z hz=>h z (A3l _ hz)) (k:=k) (x:=x) (by simpa using hx)
  unfold putsC at ih |-
  rw[A4A,A4U,A3M (by rw[O4 (h y (A3m ..)).1];omega),A3q,O4 (h y (A3m ..)).1,show (k+1)*129 - 129=k*129 by omega]
  exact ih
def PutsAt(w:World)(v:Value)(l:List Pt):Prop:=okP l/\∃p c,v=.slice p l.length c/\l.length<=c/\(p=none->c=0)/\(l≠[]->∃b o cs t fr,p=some ⟨b,o,none⟩/\blk w b=some (.cells cs t fr)/\∀j x,(putsC l)[j]?=some x->cs[o+j]?=some x)
theorem PutsAt.below{w w':World}{v:Value}{l:List Pt}(h:PutsAt w v l)(hb:Below w.heap.size w w'):PutsAt w' v l:=by
 obtain⟨h0,p,c,h1,h2,h3,h4⟩:=h
 refine⟨h0,p,c,h1,h2,h3,fun hne=>?_⟩
 obtain⟨b,o,cs,t,fr,h5,h6,h7⟩:=h4 hne
 exact⟨b,o,cs,t,fr,h5,(hb.block b (G1 h6)).trans h6,h7⟩
theorem put_cells{cs:Array Value}{o:Nat}{l:List Pt}(ho:okP l)(hc:∀j x,(putsC l)[j]?=some x->cs[o+j]?=some x){k:Nat}{a:Int}{C:List UInt8}(hx:l[k]?=some (a,C)) :
  C.length=128/\o+k*129+129<=csz cs/\cut cs (o+k*129) 129=hdV a C/\cs[o+k*129]?=some (.int .i64 a)/\(∀i,i<128->cs[o+k*129+1+i]?=some (.int .u8 ((C.getD i 0).toNat:Int))):=by
 have hl:C.length=128:=(ho _ (A4d hx)).1
 have hat:=putsC_at ho hx
 have hg:∀i v,(putC (a,C))[i]?=some v->cs[o+k*129+i]?=some v:=fun i v hv=>by
  have h1:((putsC l).drop (k*129))[i]?=some v:=by
   rw[<-hat,A4f] at hv
   split at hv
   ·exact hv
   ·cases hv
  rw[A4z] at h1
  have:=hc _ _ h1
  rwa [<-A4K] at this
 have hlen:=O4 (x:=(a,C)) hl
 have hsz:o+k*129+129<=cs.size:=by
  have h1:(putC (a,C))[128]?=some ((putC (a,C))[128]'E9):=A3p E9
  have:=(A3y.1 (hg 128 _ h1)).1
  omega
 refine⟨hl,by rw[H5];exact hsz,?_,?_,fun i hi=>?_⟩
 ·have hex:cs.extract (o+k*129) (o+k*129+129)=hdV a C:=by
   apply A4N
   intro i
   unfold hdV
   by_cases hi:i<129
   ·have h1:(putC (a,C))[i]?=some ((putC (a,C))[i]'E9):=A3p E9
    have h2:=hg i _ h1
    rw[Array.getElem?_extract,if_pos E9,h2,A3o,<-h1]
    rfl
   ·rw[A4v (by rw[Array.size_extract];omega),A4v (by rw[A3R];unfold putC at hlen;dsimp only at hlen;omega)]
  unfold cut
  split
  ·rename_i h
   have:cs.extract (o+k*129) (o+k*129+129)=cs:=by
    rw[h.1]
    have h2:=h.2
    rw[H5] at h2
    rw[A3x,<-h2,Array.extract_size]
   rw[<-this];exact hex
  ·exact hex
 ·have:=hg 0 (.int .i64 a) rfl
  rwa [A4n] at this
 ·have h1:(putC (a,C))[1+i]?=some (.int .u8 ((C.getD i 0).toNat:Int)):=by
   show (Value.int .i64 a::C.map bv)[1+i]?=_
   rw[Nat.add_comm,A4M,A3N,A3p E9,A3I,A3p E9]
   rfl
  have:=hg (1+i) _ h1
  rwa [<-A4K] at this
def inR(a:Int):Prop:=0<=a/\a<=65535
def soundP(l:List Pt):Prop:=(l.map (·.1)).Nodup/\(∀x∈l,inR x.1)/\l.length<=56
instance(priority:=2000) instRd1_1:ZeroT Tryz.prog 244 (hdV 0 (zs 128)):=⟨by kernel_rfl⟩
theorem rdSound_any(l:List Pt)(hl:l.length<=1000)(v:Value)(w0:World)(hv:PutsAt w0 v l) :
  Calls Tryz.prog 253 #[v] w0 fun e w'=>∃b,e=.returned (.bool b)/\(b=true↔soundP l)/\Below w0.heap.size w0 w':=by
 obtain⟨ho,p,c,rfl,hc,hp0,hcell⟩:=hv
 have hS:=St.start w0
 obtain⟨n,hn⟩:∃n,l.length=n:=⟨_,rfl⟩
 rw[hn] at hl hc |-
 go_enter Tryz.func253,Tryz.ntmps253
 refine Zdsm ?_;intro _ _ _
 refine s_makeMap hS F1 F1 ?_
 clear hS
 intro B w hS
 refine F2 ?_
 refine ZdMm ?_;intro _ _
 go_loopw [2,5,9] (fun u2 u5 u9 wr=>∃(k:Nat)(D:DataW Unit),k<=n/\u9=.int .i64 (k:Int)/\IsMap D/\((l.take k).map (·.1)).Nodup/\(∀x∈l.take k,inR x.1)/\(∀a:Int,D.atKey (.int .i64 a) (.lit (.int .i64 0))=.lit (.int .i64 (if a∈(l.take k).map (·.1) then 1 else 0)))/\StM w0 B k D wr []) (fun _ _ u9 _=>n - (intOf u9).toNat)
 case atStart=>exact⟨0,_,by omega,rfl,⟨[],rfl⟩,by simp,by simp,fun a=>by rfl,hS⟩
 case round =>
  clear hS
  obtain⟨k,D,hk,rfl,hD,hnd,hin,hat,hS⟩:=hrel
  by_cases hlt:k<n
  ·obtain⟨⟨a,C⟩,hx⟩:∃x,l[k]?=some x:=⟨_,A3p E9⟩
   obtain⟨b,o,cs,ty,fr,rfl,hb,hcc⟩:=hcell (by intro e;rw[e] at hn;simp at hn;omega)
   obtain⟨lC,c1,c2,c3,c4⟩:=put_cells ho hcc hx
   have hr : -9223372036854775808<=a/\a<=9223372036854775807:=(ho _ (A4d hx)).2
   have htk:l.take (k+1)=l.take k++[(a,C)]:=by rw[A5f,hx];rfl
   have s1:csz (hdV a C)=129:=by rw[J3,lC]
   have s2:csz (hdV 0 (zs 128))=129:=by rw[J3,zs_len]
   have hka:=hat a
   have hnew:∀(z:Int)(a':Int),(D.put (.int .i64 a) (.lit (.int .i64 z))).atKey (.int .i64 a') (.lit (.int .i64 0))=if a'=a then .lit (.int .i64 z) else .lit (.int .i64 (if a'∈(l.take k).map (·.1) then 1 else 0)):=fun z a'=>by
    by_cases he:a'=a
    ·subst he
     rw[if_pos rfl]
     exact atKey_put_same hD (by trivial) _ _
    ·rw[if_neg he,atKey_put_other (fun e=>he (by cases e;rfl)),hat a']
   by_cases hmem:a∈(l.take k).map (·.1)
   ·rw[if_pos hmem] at hka
    have hk2:=(hnew 2 a).trans (if_pos rfl)
    have hns:¬soundP l:=fun h=>by
     have h1:=h.1
     rw[<-A3O (k+1) l,htk,A3J,A3J] at h1
     have h2:=(A5e.1 (A5e.1 h1).1).2.2
     exact h2 a hmem a F0 rfl
    repeat' (first|refine ZbMm ?_|refine ZvM ?_|(refine ZkM ?_;clear hS;intro b w hS)|(refine Zll ?_;(refine I1 stp_list own_stM hS ?_ (hv:=N3 _ _);clear hS;intro w hS;refine F2 ?_))|(refine Zg ?_;go_step)|fail)
    refine X9 hS F1 F1 D7 F1 F1 hr hka ?_
    refine F2 ?_
    refine ZdMm ?_;show _
    refine s_update hS F1 F1 D7 E9 F1 F1 F1 hr E9 ?_
    clear hS
    intro w hS
    refine F2 ?_
    refine ZdMm ?_;intro _ _
    refine X9 hS F1 F1 D7 F1 F1 hr hk2 ?_
    refine F2 ?_
    clear hnew hat hka hk2 hnd hin
    refine ZdMm ?_;show _
    go_ret
    exact⟨false,rfl,by simp[hns],hS.1.below⟩
   ·rw[if_neg hmem] at hka
    have hk2:=(hnew 1 a).trans (if_pos rfl)
    have hnd':((l.take (k+1)).map (·.1)).Nodup:=by
     rw[htk,A3J,A5e]
     exact⟨hnd,by simp,fun x hxm y hy=>by simp at hy;subst hy;exact fun e=>hmem (e ▸ hxm)⟩
    have hat':∀a':Int,(D.put (.int .i64 a) (.lit (.int .i64 1))).atKey (.int .i64 a') (.lit (.int .i64 0))=.lit (.int .i64 (if a'∈(l.take (k+1)).map (·.1) then 1 else 0)):=fun a'=>by
     rw[hnew 1 a',htk,A3J]
     by_cases he:a'=a
     ·subst he;simp
     ·rw[if_neg he]
      simp[he]
    have hns:¬inR a->¬soundP l:=fun h h2=>h (h2.2.1 _ (A4d hx))
    by_cases hlow:a<0
    ·have hns2:=hns (fun h=>absurd h.1 E9)
     repeat' (first|refine ZbMm ?_|(refine Zll ?_;((refine K3 stp_list (by exact((hS).far hb).1) ?_ (hv:=by(exact c2)))<;>refine F2 ?_))|(refine ZkM ?_;clear hS;intro b w hS)|(refine Zll ?_;(refine I1 stp_list own_stM hS ?_ (hv:=N3 _ _);clear hS;intro w hS;refine F2 ?_))|(refine Zg ?_;go_step)|fail)
     refine X9 hS F1 F1 D7 F1 F1 hr hka ?_
     refine F2 ?_
     refine ZdMm ?_;show _
     refine s_update hS F1 F1 D7 E9 F1 F1 F1 hr E9 ?_
     clear hS
     intro w hS
     refine F2 ?_
     refine ZdMm ?_;intro _ _
     refine X9 hS F1 F1 D7 F1 F1 hr hk2 ?_
     refine F2 ?_
     clear hnew hat hka hk2 hnd hin hat' hnd'
     refine ZdMm ?_;show _
     go_ret
     exact⟨false,rfl,by simp[hns2],hS.1.below⟩
    ·by_cases hhigh:65535<a
     ·have hns2:=hns (fun h=>absurd h.2 E9)
      repeat' (first|refine ZbMm ?_|(refine Zll ?_;((refine K3 stp_list (by exact((hS).far hb).1) ?_ (hv:=by(exact c2)))<;>refine F2 ?_))|(refine ZkM ?_;clear hS;intro b w hS)|(refine Zll ?_;(refine I1 stp_list own_stM hS ?_ (hv:=N3 _ _);clear hS;intro w hS;refine F2 ?_))|(refine Zg ?_;go_step)|fail)
      refine X9 hS F1 F1 D7 F1 F1 hr hka ?_
      refine F2 ?_
      refine ZdMm ?_;show _
      refine s_update hS F1 F1 D7 E9 F1 F1 F1 hr E9 ?_
      clear hS
      intro w hS
      refine F2 ?_
      refine ZdMm ?_;intro _ _
      refine X9 hS F1 F1 D7 F1 F1 hr hk2 ?_
      refine F2 ?_
      clear hnew hat hka hk2 hnd hin hat' hnd'
      refine ZdMm ?_;show _
      go_ret
      exact⟨false,rfl,by simp[hns2],hS.1.below⟩
     ·have hin':∀x∈l.take (k+1),inR x.1:=fun x hx'=>by
       rw[htk,A3Y] at hx'
       rcases hx' with h|h
       ·exact hin x h
       ·simp at h;subst h;exact⟨by omega,by omega⟩
      repeat' (first|refine ZbMm ?_|(refine Zll ?_;((refine K3 stp_list (by exact((hS).far hb).1) ?_ (hv:=by(exact c2)))<;>refine F2 ?_))|(refine ZkM ?_;clear hS;intro b w hS)|(refine Zll ?_;(refine I1 stp_list own_stM hS ?_ (hv:=N3 _ _);clear hS;intro w hS;refine F2 ?_))|(refine Zg ?_;go_step)|fail)
      refine X9 hS F1 F1 D7 F1 F1 hr hka ?_
      refine F2 ?_
      refine ZdMm ?_;show _
      refine s_update hS F1 F1 D7 E9 F1 F1 F1 hr E9 ?_
      clear hS
      intro w hS
      refine F2 ?_
      refine ZdMm ?_;intro _ _
      refine X9 hS F1 F1 D7 F1 F1 hr hk2 ?_
      refine F2 ?_
      clear hnew hat hka hk2 hnd hin
      refine ZdMm ?_;show _
      go_roundw
      case rel=>exact⟨k+1,_,by omega,by push_cast;rfl,hD.put _ _,hnd',hin',hat',own_stM.sub hS (fun _ h=>absurd h A3W) List.nodup_nil⟩
      case measure=>(simp[intOf];omega)
  ·obtain rfl:k=n:=by omega
   have htl:l.take k=l:=A3B E9
   rw[htl] at hnd hin
   clear hat
   by_cases h56:k<=56
   ·refine ZdMm ?_;intro _ _ _
    go_ret
    exact⟨true,rfl,by simp;exact⟨hnd,hin,by omega⟩,hS.1.below⟩
   ·refine ZdMm ?_;intro _ _ _
    go_ret
    exact⟨false,rfl,by simp;exact fun h=>absurd h.2.2 E9,hS.1.below⟩
end
section
open Go.ChangeShapes Go.WideShapes Go.ChangeAt Go.RowKit
attribute [local irreducible] wpList wpListIn Oper.quietAt wpM
section
theorem sized_2(w0:World):Calls Tryz.prog 154 #[.int .i64 2] w0 fun e w'=>e=.returned (.bool true)/\Below w0.heap.size w0 w':=by
 have hS:=St.start w0
 go_enter Tryz.func154,Tryz.ntmps154
 repeat' (first|refine Zasm ?_|(refine Zg ?_;go_step)|fail)
 go_ret
 exact⟨rfl,hS.below⟩
theorem put_2(l:List UInt8)(v:Value)(hv0:l=[]->v=.slice none 0 0)(hm:l.length<=1000)(n:Int)(hn:0<=n/\n<=65535)(w0:World)(hv:BytesAt w0 v l) :
  Calls Tryz.prog 156 #[v,.int .i64 2,.int .i64 n] w0 fun e w'=>∃sv,e=.returned (.tuple #[sv,.nilIface])/\OwnB w0.heap.size w' sv (l++beB (u64W n) 2)/\Below w0.heap.size w0 w':=by
 have hS:=St.start w0
 have hb8:(beB (u64W n) 2).length=2:=H6 _ _
 go_enter Tryz.func156,Tryz.ntmps156
 repeat' (first|refine Zasm ?_|(refine Zll ?_;first|(refine g_calls hS (sized_2 _) ?_;clear hS;intro w hS)|(refine Stp.go stp_list F1 F1 (r_shrI (i:=2) F1 F1 F1 F1 E8 (show n / ((256 ^ 2:Nat):Int)=0 by simp only[Nat.reducePow];omega)) ?_;refine F2 ?_))|(refine Zg ?_;go_step)|fail)
 refine F7 stp_list F1 F1 F1 F1 F1 E5 (cloneB v l hv0 E9 _ (hv.below hS.below)) ?_
 rintro e w1 ⟨sv,rfl,ho,hB⟩
 refine⟨_,rfl,?_⟩
 refine F2 ?_
 obtain⟨Lr,hR,hS2⟩:=ho.join hS hB
 replace hS:=hS2
 clear hS2 ho hB
 repeat' (first|refine Zasm ?_|fail)
 refine F7 stp_list F1 F1 F1 F1 F1 E5 (growB l sv Lr [] hR 2 E9 E9 _ _ hS) ?_
 rintro e w2 ⟨sv2,Lr2,rfl,hR2,hS2⟩
 refine⟨_,rfl,?_⟩
 refine F2 ?_
 replace hS:=hS2
 clear hS2 hR
 repeat' (first|refine Zasm ?_|(refine Zg ?_;go_step)|fail)
 go_loopw [8,9] (fun u8 u9 wr=>∃(k:Nat)(Lr:List Blk),k<=2/\u9=.int .i64 (1 - (k:Int))/\BL (l++(beB (u64W n) 2).take k) u8 Lr/\St w0 wr Lr) (fun _ u9 _=>(intOf u9+1).toNat)
 case atStart=>exact⟨0,Lr2,by omega,rfl,by rw[A4g,A3Q];exact hR2,by rwa [A3Q] at hS⟩
 case round =>
  obtain⟨k,Lr,hk,rfl,hR,hS⟩:=hrel
  obtain⟨p2,c2,rfl⟩:=hR.slice
  have hll:(l++(beB (u64W n) 2).take k).length<=2000:=by rw[A3k,A3s];omega
  by_cases hlt:k<2
  ·obtain⟨i,hi⟩:∃i:Nat,1 - (k:Int)=(i:Int):=⟨1 - k,by omega⟩
   rw[hi]
   have hi8:i<8:=by omega
   have hby:=byte_at n hi8
   obtain⟨q,hq⟩:∃q,n / ((256 ^ i:Nat):Int)=q:=⟨_,rfl⟩
   rw[hq] at hby
   repeat' (first|refine Zasm ?_|(refine Zks ?_;clear hS;intro b w hS)|(refine Zll ?_;first|(refine Stp.go stp_list F1 F1 (r_shrI F1 F1 F1 F1 hi8 hq) ?_;refine F2 ?_)|(refine Stp.go stp_list F1 F1 (r_convQ F1 F1 E5 E5 hby) ?_;refine F2 ?_))|(refine Zg ?_;go_step)|fail)
   refine s_appB (L:=[]) (z:=UInt8.ofNat (u64W n / 256 ^ i)) (by rwa [A3Q]) hR E9 F1 F1 F1 F1 ?_
   intro sv' Lr' w' hR' hS'
   rw[A3Q] at hS'
   rw[A3K,<-beB_next (m:=2) (u64W n) hlt E9] at hR'
   obtain⟨p3,c3,rfl⟩:=hR'.slice
   refine F2 ?_
   replace hS:=hS'
   clear hS' hR
   repeat' (first|refine Zasm ?_|(refine Zg ?_;go_step)|fail)
   go_roundw
   case rel=>exact⟨k+1,Lr',by omega,by rw[<-hi];push_cast;congr 1;omega,hR',hS⟩
   case measure=>(simp[intOf];done)
  ·obtain rfl:k=2:=by omega
   rw[A3B E9] at hR hll |-
   repeat' (first|refine Zasm ?_|(refine Zg ?_;go_step)|fail)
   go_ret2
   exact⟨_,rfl,hR.own hS (fun x hx=>hx),hS.below⟩
theorem fillG(l:List UInt8)(hl:l.length<=128)(v:Value)(w0:World)(hv:BytesAt w0 v l) :
  Calls Tryz.prog 123 #[v] w0 fun e w'=>e=.returned (.tuple #[.agg (bvs (l++zs (128 - l.length))),.nilIface])/\Below w0.heap.size w0 w':=by
 obtain⟨p,c,rfl,hc⟩:=hv.slice
 have hS:=St.start w0
 have l1:l.take 128=l:=A3B hl
 have s1:csz (bvs (l++zs (128 - l.length)))=128:=by rw[F3,A3k,zs_len];omega
 go_enter Tryz.func123,Tryz.ntmps123
 repeat' (first|refine Zasm ?_|(refine Zks ?_;clear hS;intro b w hS)|(refine Zg ?_;go_step)|fail)
 refine Q9 (i:=0) stp_list own_st hS F1 F1 F1 F1 E5 F1 (hv.below hS.below) (by rw[l1,F3,zs_len];omega) (cs2:=bvs (l++zs (128 - l.length))) (by
  rw[O8,l1,A4g,A3q];congr 2;unfold zs;rw[A4o,A3x]) A9 rfl ?_
 clear hS
 intro w hS
 refine F2 ?_
 repeat' (first|refine Zasm ?_|(refine Ztsm ?_;clear hS;intro w hS)|(refine Zg ?_;go_step)|fail)
 exact J1 (n:=128) Tryz.results123 E7 (.inl rfl) _ _ _ _ rfl rfl (hS.blk 1 rfl) (by rw[<-H5];exact s1) ⟨rfl,hS.below⟩
end
section
attribute [local irreducible] shaL
theorem St.perm{w0 w:World}{L L':List Blk}(h:St w0 w L)(hp:L.Perm L'):St w0 w L' :=
 own_st.sub h (fun _x hx=>hp.mem_iff.2 hx) ((hp.map _).nodup_iff.1 h.2.2)
end
section
attribute [local irreducible] tagL
def firstT(n:Int)(l:List Pt):List UInt8:=beB (u64W n) 8++(beB l.length 2++l.flatMap fun x=>beB (u64W x.1) 2)
def firstC(n:Int)(l:List Pt):List UInt8:=firstT n l++zs (128 - (firstT n l).length)
theorem nums_len:∀l:List Pt,(l.flatMap fun x=>beB (u64W x.1) 2).length=2*l.length
 | []=>rfl
 | x::l=>by rw[A4A,A3k,H6,nums_len l,A3D];omega
theorem firstT_len(n:Int)(l:List Pt):(firstT n l).length=10+2*l.length:=by
 unfold firstT
 rw[A3k,A3k,H6,H6,nums_len];omega
theorem nums_next{l:List Pt}{k:Nat}{x:Pt}(h:l[k]?=some x):((l.take (k+1)).flatMap fun x=>beB (u64W x.1) 2)=((l.take k).flatMap fun x=>beB (u64W x.1) 2)++beB (u64W x.1) 2:=by
 rw[A5f,h,List.flatMap_append]
 simp
theorem first_any(n:Int)(l:List Pt)(hs:soundP l)(v:Value)(w0:World)(hv:PutsAt w0 v l) :
  Calls Tryz.prog 254 #[.int .i64 n,v] w0 fun e w'=>e=.returned (.tuple #[.agg (bvs (firstC n l)),.nilIface])/\Below w0.heap.size w0 w':=by
 obtain⟨ho,p,c,rfl,hc,hp0,hcell⟩:=hv
 have hS:=St.start w0
 have hTl:=firstT_len n l
 have hFC:firstC n l=firstT n l++zs (128 - (firstT n l).length):=rfl
 have hTT:firstT n l=(beB (u64W n) 8++beB l.length 2)++l.flatMap fun x=>beB (u64W x.1) 2:=by unfold firstT;rw[A3K]
 have h8:=H6 (u64W n) 8
 have h2:=H6 l.length 2
 obtain⟨hs1,hs2,hs3⟩:=hs
 obtain⟨q,hq⟩:∃q,l.length=q:=⟨_,rfl⟩
 have hu:u64W (q:Int)=q:=by unfold u64W;omega
 rw[hq] at hc h2 hTT hTl hs3 |-
 obtain⟨A,hA⟩:∃A,beB (u64W n) 8=A:=⟨_,rfl⟩
 have hp8:=fun w=>put_8 [] (.slice none 0 0) (fun _=>rfl) F0 n w ⟨none,0,rfl,A3t _,fun _=>rfl,fun h=>absurd rfl h⟩
 rw[A3q,hA] at hp8
 rw[hA] at h8 hTT
 have s128:csz (bvs (zs 128))=128:=by rw[F3,zs_len]
 go_enter Tryz.func254,Tryz.ntmps254
 refine Zdsm ?_;clear hS;intro _ b w hS _ _
 refine F7 stp_list F1 F1 F1 F1 F1 E5 (hp8 _) ?_
 rintro e w1 ⟨sv,rfl,hO,hB⟩
 refine⟨_,rfl,?_⟩
 refine F2 ?_
 obtain⟨Lr,hR,hS2⟩:=hO.join hS hB
 replace hS:=hS2
 clear hS2 hO hB
 refine Zdsm ?_;intro _ _
 have hbA:=hR.inn hS (fun x hx=>A4B _ hx)
 refine F7 stp_list F1 F1 F1 F1 F1 E5 (put_2 A sv (fun e=>by rw[e] at h8;cases h8) E9 (q:Int) E9 _ hbA) ?_
 rintro e w2 ⟨sv2,rfl,hO,hB⟩
 rw[hu] at hO
 refine⟨_,rfl,?_⟩
 refine F2 ?_
 obtain⟨bR,hbR⟩:∃x,x=b:=⟨_,rfl⟩
 rw[<-hbR] at hS |-
 clear hbR
 have hS3:St w0 w1 [(bR,bvs (zs 128),36)]:=own_st.sub hS (fun x hx=>A3L _ hx) F0
 clear hS hR hbA
 obtain⟨Lr2,hR,hS⟩:=hO.join hS3 hB
 clear hS3 hO hB
 refine Zdsm ?_;intro _ _
 go_loopw [6,7,8] (fun u6 u7 u8 wr=>∃(k:Nat)(Lr:List Blk),k<=q/\u8=.int .i64 (k:Int)/\u7=.nilIface/\BL ((A++beB q 2)++(l.take k).flatMap fun x=>beB (u64W x.1) 2) u6 Lr/\St w0 wr (Lr++[(bR,bvs (zs 128),36)])) (fun _ _ u8 _=>q - (intOf u8).toNat)
 case atStart=>exact⟨0,Lr2,by omega,rfl,rfl,by rw[A4g,List.flatMap_nil,A3Q];exact hR,hS⟩
 case round =>
  clear hS hR
  obtain⟨k,Lr,hk,rfl,rfl,hR,hS⟩:=hrel
  have hlk:((A++beB q 2)++(l.take k).flatMap fun x=>beB (u64W x.1) 2).length=10+2*k:=by
   rw[A3k,A3k,h8,h2,nums_len,A3s];omega
  by_cases hlt:k<q
  ·obtain⟨⟨a,C⟩,hx⟩:∃x,l[k]?=some x:=⟨_,A3p E9⟩
   obtain⟨b,o,cs,ty,fr,rfl,hb,hcc⟩:=hcell (by intro e;rw[e] at hq;simp at hq;omega)
   obtain⟨lC,c1,c2,c3,c4⟩:=put_cells ho hcc hx
   have hin:=hs2 _ (A4d hx)
   have hnx:=nums_next hx
   dsimp only at hnx hin
   obtain⟨T,hTk⟩:∃T,((A++beB q 2)++(l.take k).flatMap fun x=>beB (u64W x.1) 2)=T:=⟨_,rfl⟩
   rw[hTk] at hR hlk
   have hbT:=hR.inn hS (fun x hx=>A4B _ hx)
   have hin2:0<=a/\a<=65535:=hin
   refine Zxsm ?_;intro _ _ _
   refine F7 stp_list F1 F1 F1 F1 F1 E5 (put_2 T _ (fun e=>by rw[e] at hlk;simp at hlk;omega) E9 a hin2 _ hbT) ?_
   rintro e w3 ⟨sv3,rfl,hO,hB⟩
   refine⟨_,rfl,?_⟩
   refine F2 ?_
   have hS3:St w0 wr [(bR,bvs (zs 128),36)]:=own_st.sub hS (fun x hx=>A3L _ hx) F0
   clear hS hR hbT
   obtain⟨Lr3,hR,hS⟩:=hO.join hS3 hB
   clear hS3 hO hB
   refine Zdsm ?_;show _
   go_roundw
   case rel=>exact⟨k+1,Lr3,by omega,by push_cast;rfl,rfl,by rw[hnx,<-A3K,hTk];exact hR,hS⟩
   case measure=>(simp[intOf];omega)
  ·obtain rfl:k=q:=by omega
   rw[A3B E9,<-hTT] at hR
   have hbT:=hR.inn hS (fun x hx=>A4B _ hx)
   have sF:csz (bvs (firstC n l))=128:=by rw[hFC,F3,A3k,zs_len,hTl];omega
   have lF:(firstC n l).length=128:=by rw[hFC,A3k,zs_len,hTl];omega
   have hfill:=fillG (firstT n l) E9 _ _ hbT
   rw[<-hFC] at hfill
   obtain⟨Y,hY⟩:∃Y,firstC n l=Y:=⟨_,rfl⟩
   rw[hY] at hfill sF lF
   have hS3:St w0 wr [(bR,bvs (zs 128),36)]:=own_st.sub hS (fun x hx=>A3L _ hx) F0
   clear hS
   have hS:=hS3
   clear hS3
   repeat' (first|refine Zasm ?_|(refine Ztsm ?_;clear hS;intro w hS)|(refine Zll ?_;(refine g_calls hS (hfill) ?_;clear hS;intro w hS))|(refine Zg ?_;go_step)|fail)
   exact J1 (n:=128) Tryz.results254 E7 (.inl rfl) _ _ _ _ rfl rfl (hS.blk 0 rfl) (by rw[<-H5];exact sF) ⟨by rw[hY];rfl,hS.below⟩
end
section
attribute [local irreducible] tagL
def pvR(b o i:Nat):Value:=.slice (some ⟨b,o+i*129+1,none⟩) 128 128
def bodyL(l:List Pt):List UInt8:=l.flatMap (·.2)
def tagC(key C:List UInt8)(l:List Pt):List UInt8:=tagL key (C++bodyL l)++zs 96
theorem A2I(key C:List UInt8)(l:List Pt):(tagC key C l).length=128:=by unfold tagC;rw[A3k,K5,zs_len]
theorem A2b:∀{l:List Pt},okP l->(bodyL l).length=128*l.length
 | [],_=>rfl
 | x::l,h=>by
  have ih:=A2b (l:=l) (fun y hy=>h y (A3l _ hy))
  unfold bodyL at ih |-
  rw[A4A,A3k,ih,(h x (A3m ..)).1,A3D];omega
theorem flat_body(C:List UInt8)(l:List Pt):(C::l.map (·.2)).flatten=C++bodyL l:=by
 rw[List.flatten_cons]
 congr 1
theorem parts_of{w:World}{b o:Nat}{cs:Array Value}{t:TypeId}{fr:Nat × Nat}{l:List Pt}(hb:blk w b=some (.cells cs t fr))(ho:okP l)(hc:∀j x,(putsC l)[j]?=some x->cs[o+j]?=some x):PartsAt w ((List.range l.length).map (pvR b o)) (l.map (·.2)):=by
 refine⟨by simp,fun i v m hi hm=>?_⟩
 rw[A3N] at hi hm
 cases hx:l[i]? with
 | none=>rw[hx] at hm;cases hm
 | some x =>
  rw[hx] at hm
  simp at hm
  subst hm
  obtain⟨a,C⟩:=x
  have hil:=(A3n.1 hx).1
  rw[A5E hil] at hi
  simp at hi
  subst hi
  obtain⟨lC,c1,c2,c3,c4⟩:=put_cells ho hc hx
  refine⟨L5 hb lC (A3t _) (fun j x hj=>?_),by intro e;dsimp only at e;rw[e] at lC;cases lC⟩
  obtain⟨hj1,rfl⟩:=A3n.1 hj
  have hj3:j<C.length:=hj1
  have hj2:j<128:=by omega
  have:=c4 j hj2
  rw[this,A3I,A3p hj1]
  rfl
theorem range_snoc(b o k:Nat):(List.range (k+1)).map (pvR b o)=(List.range k).map (pvR b o)++[pvR b o k]:=by rw[List.range_succ,A3J];rfl
theorem rdTag_any(key C:List UInt8)(hk:key.length<=1000000)(hC:C.length=128)(l:List Pt)(hl:l.length<=100)(kv v:Value)(w0:World)(hkv:BytesAt w0 kv key)(hv:PutsAt w0 v l) :
  Calls Tryz.prog 255 #[kv,.agg (bvs C),v] w0 fun e w'=>e=.returned (.agg (bvs (tagC key C l)))/\Below w0.heap.size w0 w':=by
 obtain⟨ho,p,c,rfl,hc,hp0,hcell⟩:=hv
 have hS:=St.start w0
 have sC:csz (bvs C)=128:=by rw[F3,hC]
 have s128:csz (bvs (zs 128))=128:=by rw[F3,zs_len]
 have hbl:=A2b ho
 have hCne:C≠[]:=by intro e;rw[e] at hC;cases hC
 obtain⟨q,hq⟩:∃q,l.length=q:=⟨_,rfl⟩
 -- where the puts lie
 obtain⟨b0,o0,hpl⟩:∃b0 o0,(0<q->p=some ⟨b0,o0,none⟩/\∃cs t fr,blk w0 b0=some (.cells cs t fr)/\∀j x,(putsC l)[j]?=some x->cs[o0+j]?=some x):=by
  by_cases hne:l=[]
  ·exact⟨0,0,fun h=>by rw[hne] at hq;simp at hq;omega⟩
  ·obtain⟨b,o,cs,t,fr,h1,h2,h3⟩:=hcell hne
   exact⟨b,o,fun _=>⟨h1,cs,t,fr,h2,h3⟩⟩
 have hparts:PartsAt w0 ((List.range q).map (pvR b0 o0)) (l.map (·.2)):=by
  by_cases hne:l=[]
  ·subst hne;simp at hq;subst hq;exact PartsAt.nil w0
  ·have h0:0<q:=by rw[<-hq];exact A5o.2 hne
   obtain⟨_,cs,t,fr,h2,h3⟩:=hpl h0
   rw[<-hq];exact parts_of h2 ho h3
 rw[hq] at hc hl hbl |-
 have hG:=K5 key (C++bodyL l)
 have hTG:tagC key C l=tagL key (C++bodyL l)++zs 96:=rfl
 go_enter Tryz.func255,Tryz.ntmps255
 refine Zdsm ?_;clear hS;intro _ b w b w b w hS _ _
 rename_i bC y0 bR y1 KK hKK
 go_loopw [7,8,15] (fun u7 u8 u15 wr=>∃(k g c:Nat)(sp:List Value),k<=q/\u15=.int .i64 (k:Int)/\u7=.slice (some ⟨g,0,none⟩) (k+1) c/\k+1<=c/\c<=maxLen/\sp.length=c - (k+1)/\St w0 wr [(g,((.slice (some ⟨bC,0,none⟩) 128 128::(List.range k).map (pvR b0 o0))++sp).toArray,23),(bR,bvs (zs 128),36),(bC,bvs C,36)]) (fun _ _ u15 _=>q - (intOf u15).toNat)
 case atStart=>exact⟨0,b,1,[],by omega,rfl,rfl,by omega,by decide,rfl,hS⟩
 case round =>
  clear hS
  obtain⟨k,g,c2,sp,hk2,rfl,rfl,k1,k2,k3,hS⟩:=hrel
  have k2':=k2
  unfold maxLen at k2'
  by_cases hlt:k<q
  ·obtain⟨rfl,cs,t,fr,hb,hcc⟩:=hpl E9
   have hpv:pvR b0 o0 k=.slice (some ⟨b0,o0+k*129+1,none⟩) 128 128:=rfl
   refine Zysm ?_;clear hS;intro _ _ _ b w hS
   refine J9 stp_list own_st hS F1 F1 F1 F1 E5 (by exact at_ 1 rfl) (olds:=.slice (some ⟨bC,0,none⟩) 128 128::(List.range k).map (pvR b0 o0)) (spare:=sp) F1 F0 k1 (by rw[k3,A4j]) (xs:=[pvR b0 o0 k]) (L9 (hS.blk 0 rfl) (fun j v h=>by rw[A3x];exact h)) F1 (by intro v hv;simp at hv;subst hv;rfl) D9 (nm:=k+1+1) E9 ?_
   clear hS
   intro b' c' sp' w' q1 q2 q3 hS
   replace hS:St w0 w' [(b',((.slice (some ⟨bC,0,none⟩) 128 128::(List.range (k+1)).map (pvR b0 o0))++sp').toArray,23),(bR,bvs (zs 128),36),(bC,bvs C,36)]:=by
    have:=hS.erase 1
    rw[range_snoc]
    exact this
   refine F2 ?_
   refine Zdsm ?_;show _
   go_roundw
   case rel=>exact⟨k+1,b',c',sp',by omega,by push_cast;rfl,rfl,q1,q2,by rw[q3,A4j],hS⟩
   case measure=>(simp[intOf];omega)
  ·obtain rfl:k=q:=by omega
   have hps:=PartsAt.cons (I4 (hS.blk 2 rfl) hC) hCne (hparts.below hS.below)
   have htg:=A1M key hk kv _ (C::l.map (·.2)) F0 (by rw[flat_body,A3k];omega) g 0 c2 _ _ _ _ (hkv.below hS.below) hps (hS.blk 0 rfl) (fun j v h=>by
    rw[A3x,A3o,A3E (A3n.1 h).1];exact h) E6
   rw[flat_body,show (C::l.map (·.2)).length=k+1 by simp[hq]] at htg
   obtain⟨G,hGG⟩:∃G,tagL key (C++bodyL l)=G:=⟨_,rfl⟩
   rw[hGG] at htg hG hTG
   have sG:csz (bvs G)=32:=by rw[F3,hG]
   have sZ:csz (bvs (zs 32))=32:=by rw[F3,zs_len]
   have sF:csz (bvs (G++zs 96))=128:=by rw[F3,A3k,hG,zs_len]
   have lF:(G++zs 96).length=128:=by rw[A3k,hG,zs_len]
   have hov:ovw (bvs (zs 128)) 0 (G.take 128)=bvs (G++zs 96):=by
    rw[A3B (l:=G) E9,O8,A4g,A3q,hG]
    congr 2
    unfold zs;rw[A4o]
   replace hS:=hS.erase 0
   repeat' (first|refine Zasm ?_|(refine Zks ?_;clear hS;intro b w hS)|(refine Ztsm ?_;clear hS;intro w hS)|(refine Zll ?_;(refine g_calls hS (htg) ?_;clear hS;intro w hS))|(refine Zg ?_;go_step)|fail)
   refine F6 2 E7 E7 ?_
   dsimp only[List.take,List.drop]
   iterate 2 (refine ZQm ?_)
   refine Zn own_st hS ?_
   clear hS
   intro pB w hS
   try dsimp only
   refine Q9 (i:=0) stp_list own_st hS F1 F1 F1 F1 E5 F1 (I4 (hS.blk 1 rfl) hG) (by rw[A3s,s128];omega) hov A9 rfl ?_
   clear hS
   intro w hS
   obtain⟨Y,hY⟩:∃Y,G++zs 96=Y:=⟨_,rfl⟩
   rw[hY] at hS sF lF hTG
   refine F2 ?_
   refine Zdsm ?_;clear hS;intro w hS
   exact G2 (n:=128) Tryz.results255 E7 (.inl rfl) _ _ _ _ rfl rfl (hS.blk 2 rfl) (by rw[<-H5];exact sF) ⟨by rw[hTG],hS.below⟩
end
section
attribute [local irreducible] tagL
theorem rdSound_t(l:List Pt)(hl:l.length<=1000)(hs:soundP l)(v:Value)(w0:World)(hv:PutsAt w0 v l):Calls Tryz.prog 253 #[v] w0 fun e w'=>e=.returned (.bool true)/\Below w0.heap.size w0 w':=by
 refine(rdSound_any l hl v w0 hv).mono ?_
 rintro e w' ⟨b,rfl,h,hB⟩
 exact⟨by rw[h.2 hs],hB⟩
theorem rdSound_f(l:List Pt)(hl:l.length<=1000)(hs:¬soundP l)(v:Value)(w0:World)(hv:PutsAt w0 v l):Calls Tryz.prog 253 #[v] w0 fun e w'=>e=.returned (.bool false)/\Below w0.heap.size w0 w':=by
 refine(rdSound_any l hl v w0 hv).mono ?_
 rintro e w' ⟨b,rfl,h,hB⟩
 cases b with
 | false=>exact⟨rfl,hB⟩
 | true=>exact absurd (h.1 rfl) hs
def encL(key:List UInt8)(n:Int)(l:List Pt):List UInt8:=firstC n l++(tagC key (firstC n l) l++bodyL l)
theorem A0g(n:Int){l:List Pt}(h:l.length<=56):(firstC n l).length=128:=by unfold firstC;rw[A3k,zs_len,firstT_len];omega
theorem encode_bad(n:Int)(l:List Pt)(hl:l.length<=1000)(hbad:n<0\/¬soundP l)(kv v:Value)(w0:World)(hv:PutsAt w0 v l) :
  Calls Tryz.prog 203 #[kv,.int .i64 n,v] w0 fun e w'=>e=.returned (.tuple #[.slice none 0 0,.iface 48 (.int .i64 2)])/\Below w0.heap.size w0 w':=by
 have hS:=St.start w0
 by_cases hn:n<0
 ·go_enter Tryz.func203,Tryz.ntmps203
  refine Zdsm ?_;intro _ _ _
  go_ret2
  exact⟨rfl,hS.below⟩
 ·have hs:¬soundP l:=by
   rcases hbad with h|h
   ·exact absurd h hn
   ·exact h
  have hsd:=fun w hv=>rdSound_f l hl hs v w hv
  go_enter Tryz.func203,Tryz.ntmps203
  repeat' (first|refine Zasm ?_|(refine Zll ?_;(refine g_calls hS (hsd _ (hv.below hS.below)) ?_;clear hS;intro w hS))|(refine Zg ?_;go_step)|fail)
  go_ret2
  exact⟨rfl,hS.below⟩
theorem encode_good(key:List UInt8)(hk:key.length<=1000000)(n:Int)(hn:0<=n)(l:List Pt)(hs:soundP l)(kv v:Value)(w0:World)(hkv:BytesAt w0 kv key)(hv:PutsAt w0 v l) :
  Calls Tryz.prog 203 #[kv,.int .i64 n,v] w0 fun e w'=>∃g c sp,e=.returned (.tuple #[.slice (some ⟨g,0,none⟩) (l.length+2) c,.nilIface])/\l.length+2<=c/\c<=maxLen/\sp.length=(c - (l.length+2))*128/\w0.heap.size<=g/\blk w' g=some (.cells ((encL key n l).map bv++sp).toArray 36 (0,0))/\Below w0.heap.size w0 w':=by
 have hS:=St.start w0
 have h56:=hs.2.2
 have hn':¬n<0:=by omega
 have hsd:=fun w hv=>rdSound_t l E9 hs v w hv
 have hfi:=fun w hv=>first_any n l hs v w hv
 have lF:=A0g n h56
 have hE:encL key n l=firstC n l++(tagC key (firstC n l) l++bodyL l):=rfl
 have htg:=fun w h1 h2=>rdTag_any key (firstC n l) hk lF l E9 kv v w h1 h2
 have lT:=A2I key (firstC n l) l
 obtain⟨Y,hY⟩:∃Y,firstC n l=Y:=⟨_,rfl⟩
 rw[hY] at hfi lF hE htg lT
 obtain⟨T,hT⟩:∃T,tagC key Y l=T:=⟨_,rfl⟩
 rw[hT] at hE htg lT
 clear hY hT
 have sY:csz (bvs Y)=128:=by rw[F3,lF]
 have sT:csz (bvs T)=128:=by rw[F3,lT]
 have s128:csz (bvs (zs 128))=128:=by rw[F3,zs_len]
 obtain⟨ho,p,c,rfl,hc,hp0,hcell⟩:=id hv
 obtain⟨q,hq⟩:∃q,l.length=q:=⟨_,rfl⟩
 rw[hq] at hc h56 hv hsd hfi htg |-
 go_enter Tryz.func203,Tryz.ntmps203
 repeat' (first|refine Zasm ?_|(refine Zks ?_;clear hS;intro b w hS)|(refine Ztsm ?_;clear hS;intro w hS)|(refine Zll ?_;first|(refine g_calls hS (hsd _ (hv.below hS.below)) ?_;clear hS;intro w hS)|(refine g_calls hS (hfi _ (hv.below hS.below)) ?_;clear hS;intro w hS))|(refine Zg ?_;go_step)|fail)
 refine F6 5 E7 E7 ?_
 dsimp only[List.take,List.drop]
 iterate 5 (first|(refine Zw ?_;apply Exists.intro;refine⟨fun pB w' hw' hF=>?_,?_⟩;(focus (have hZ:=(own_st).call hS hw';exact(G8 (htg _ (hkv.below hZ.below) (hv.below hZ.below)))));refine Zo ?_)|refine ZQm ?_|refine ZQs ?_)
 refine Zn own_st hS ?_
 clear hS
 intro pB w hS
 try dsimp only
 refine V6 stp_list own_st hS ?_ (h1:=by
  intro v hv
  simp only[A3G,A3W,or_false] at hv
  rcases hv with rfl|rfl
  ·show (bvs Y).size=128
   rw[<-H5];exact sY
  ·show (bvs T).size=128
   rw[<-H5];exact sT)
 clear hS
 intro b w hS
 refine F2 ?_
 have e0:((bvs Y).toList++(bvs T).toList).toArray=((Y++(T++bodyL (l.take 0))).map bv++[]).toArray:=by simp[bvs,bodyL]
 have s2:csz (hdV 0 (zs 128))=129:=by rw[J3,zs_len]
 refine Zdsm ?_;intro _ _
 go_loopw [10,12,38] (fun u10 u12 u38 wr=>∃(k g c:Nat)(sp:List Value),k<=q/\u38=.int .i64 (k:Int)/\u10=.slice (some ⟨g,0,none⟩) (k+2) c/\k+2<=c/\c<=maxLen/\sp.length=(c - (k+2))*128/\St w0 wr [(g,((Y++(T++bodyL (l.take k))).map bv++sp).toArray,36)]) (fun _ _ u38 _=>q - (intOf u38).toNat)
 case atStart=>exact⟨0,b,2,[],by omega,rfl,rfl,by omega,by decide,rfl,by rw[<-e0];exact hS.take 1⟩
 case round =>
  clear hS
  obtain⟨k,g,c2,sp,hk2,rfl,rfl,k1,k2,k3,hS⟩:=hrel
  have k2':=k2
  unfold maxLen at k2'
  by_cases hlt:k<q
  ·obtain⟨⟨a,C⟩,hx⟩:∃x,l[k]?=some x:=⟨_,A3p E9⟩
   obtain⟨b0,o0,cs,ty,fr,rfl,hb,hcc⟩:=hcell (by intro e;rw[e] at hq;simp at hq;omega)
   obtain⟨lC,d1,d2,d3,d4⟩:=put_cells ho hcc hx
   have s1:csz (hdV a C)=129:=by rw[J3,lC]
   have sC:csz (bvs C)=128:=by rw[F3,lC]
   have hcut:cut (hdV a C) 1 128=bvs C:=by
    have:=hd_cut a (B:=C) (o:=0) (m:=128) E9
    rwa [A4Y,A3B E9] at this
   have hbd:bodyL (l.take (k+1))=bodyL (l.take k)++C:=by
    unfold bodyL
    rw[A5f,hx,List.flatMap_append]
    simp
   have hlk:(Y++(T++bodyL (l.take k))).length=(k+2)*128:=by
    rw[A3k,A3k,lF,lT,A2b (fun x hx'=>ho x (List.mem_of_mem_take hx')),A3s];omega
   obtain⟨Z,hZ⟩:∃Z,Y++(T++bodyL (l.take k))=Z:=⟨_,rfl⟩
   rw[hZ] at hS hlk
   have hZ2:Z++C=Y++(T++bodyL (l.take (k+1))):=by rw[hbd,<-hZ];simp only[A3K]
   repeat' (first|(refine Zll ?_;first|(refine I1 stp_list own_st hS ?_ (hv:=N3 _ _);clear hS;intro w hS;refine F2 ?_)|(refine V6 stp_list own_st hS ?_ (h1:=by intro v hv;simp only[A3G,A3W,or_false] at hv;subst hv;show (bvs C).size=128;rw[<-H5];exact sC);clear hS;intro b w hS;refine F2 ?_))|refine Zbsm ?_|(refine Zll ?_;((first|refine J0 stp_list own_st hS ?_ (hv:=by(exact hcut))|refine K3 stp_list (by exact((hS).far hb).1) ?_ (hv:=by(exact d2)))<;>refine F2 ?_))|(refine Zks ?_;clear hS;intro b w hS)|(refine Zg ?_;go_step)|fail)
   refine J9 stp_list own_st hS F1 F1 F1 F1 E5 (by exact at_ 2 rfl) (olds:=Z.map bv) (spare:=sp) F1 (by rw[A3u,hlk]) k1 k3 (xs:=C.map bv) (L9 (hS.blk 0 rfl) (fun j v h=>by rw[A3x];exact h)) (by rw[A3u,lC]) (R9 C) D9 (nm:=k+1+2) E9 ?_
   clear hS
   intro b' c' sp' w' q1 q2 q3 hS
   rw[<-A3J,hZ2] at hS
   replace hS:=hS.take 1
   refine F2 ?_
   refine Zdsm ?_;show _
   go_roundw
   case rel=>exact⟨k+1,b',c',sp',by omega,by push_cast;rfl,rfl,q1,q2,q3,hS⟩
   case measure=>(simp[intOf];omega)
  ·obtain rfl:k=q:=by omega
   have htl:l.take k=l:=A3B E9
   rw[htl] at hS
   refine Zdsm ?_;intro _ _ _
   go_ret2
   exact⟨g,c2,sp,rfl,k1,k2,k3,hS.low 0 rfl,by rw[hE];exact hS.blk 0 rfl,hS.below⟩
end
section
end
section
attribute [local irreducible] shaL pieceL
end
section
end
section
attribute [local irreducible] tagL
end
section
def CellsAt(w:World)(v:Value)(X:List UInt8)(k:Nat):Prop:=X.length=128*k/\∃p c,v=.slice p k c/\k<=c/\(p=none->c=0)/\(0<k->∃b o cs t fr,p=some ⟨b,o,none⟩/\blk w b=some (.cells cs t fr)/\∀j x,X[j]?=some x->cs[o+j]?=some (bv x))
theorem CellsAt.below{w w':World}{v:Value}{X:List UInt8}{k:Nat}(h:CellsAt w v X k)(hb:Below w.heap.size w w'):CellsAt w' v X k:=by
 obtain⟨h0,p,c,h1,h2,h3,h4⟩:=h
 refine⟨h0,p,c,h1,h2,h3,fun hne=>?_⟩
 obtain⟨b,o,cs,t,fr,h5,h6,h7⟩:=h4 hne
 exact⟨b,o,cs,t,fr,h5,(hb.block b (G1 h6)).trans h6,h7⟩
def celX(X:List UInt8)(i:Nat):List UInt8:=(X.drop (128*i)).take 128
theorem celX_len{X:List UInt8}{i k:Nat}(h:X.length=128*k)(hi:i<k):(celX X i).length=128:=by unfold celX;rw[A3s,A3H];omega
theorem celX_next(X:List UInt8)(i:Nat):X.take (128*(i+1))=X.take (128*i)++celX X i:=by
 unfold celX;rw[show 128*(i+1)=128*i+128 by omega,A5C]
theorem celX_cut{cs:Array Value}{o i k:Nat}{X:List UInt8}(h:X.length=128*k)(hi:i<k)(hc:∀j x,X[j]?=some x->cs[o+j]?=some (bv x)):o+i*128+128<=csz cs/\cut cs (o+i*128) 128=bvs (celX X i)/\∀j,j<128->cs[o+i*128+j]?=some (.int .u8 (((celX X i).getD j 0).toNat:Int)):=by
 have hat:∀j x,(celX X i)[j]?=some x->cs[o+i*128+j]?=some (bv x):=fun j x hj=>by
  have hjl:=(A3n.1 hj).1
  rw[celX_len h hi] at hjl
  unfold celX at hj
  rw[A4f,if_pos hjl,A4z] at hj
  have:=hc _ _ hj
  rw[show o+i*128+j=o+(128*i+j) by omega]
  exact this
 obtain⟨h1,h2⟩:=cut_of_cells (celX_len h hi) E9 hat
 refine⟨h1,h2,fun j hj=>?_⟩
 have hl:=celX_len h hi
 rw[hat j ((celX X i)[j]'E9) (A3p E9),A3I,A3p E9]
 rfl
end
end
end Go.Proofs.YtlfbfbbdpcihfaaGreat
