/-
  Laws that the claims of this seat use, of several texts in one. No condition of their own.
-/
import Derived.Test.YtggbbafanhceaaaGreatRRL29
set_option maxRecDepth 100000
set_option maxHeartbeats 8000000
set_option linter.all false
namespace Go.Proofs.YtggbbafanhceaaaGreatRR
section
open Go.ChangeShapes Go.WideShapes Go.ChangeAt Go.RowKit
attribute [local irreducible] wpList wpListIn
section
abbrev PutK:={x:Pt // x.2.length=128}
instance instPutK:Inhabited PutK:=⟨⟨(0,List.replicate 128 0),by simp⟩⟩
def encK(z:PutK):List Value:=putC z.1
theorem encK_len(z:PutK):(encK z).length=129:=by simp[encK,putC,z.2]
theorem encK_one(z:PutK):∀v∈encK z,v.oneCell'=true:=by
 intro v hv
 simp only[encK,putC,A4O,A4I] at hv
 rcases hv with rfl|⟨x,_,rfl⟩<;>rfl
def cfK(x y:PutK):Int:=Lib.compareInt x.1.1 y.1.1
theorem ltK(x y:PutK):Go.Proofs.ltOf cfK x y=decide (x.1.1<y.1.1):=by
 unfold Go.Proofs.ltOf cfK Lib.compareInt
 by_cases h1:x.1.1<y.1.1
 ·simp[h1]
 ·by_cases h2:y.1.1<x.1.1<;>simp[h1,h2]
theorem swoK:Go.Sort.SWO (Go.Proofs.ltOf cfK) where
 irrefl x:=by rw[ltK];simp
 trans x y z h1 h2:=by rw[ltK] at *;simp at *;omega
 ntrans x y z h1 h2:=by rw[ltK] at *;simp at *;omega
theorem isNaN_any(x:Int)(w:World):Calls Tryz.prog 131 #[.int .i64 x] w fun e w'=>e=.returned (.bool false)∧w'=w:=by
 go_enter Tryz.func131,Tryz.ntmps131
 go_wp2
 go_ret
 exact⟨by simp,rfl⟩
theorem compare_any(x y:Int)(w:World):Calls Tryz.prog 91 #[.int .i64 x,.int .i64 y] w fun e w'=>e=.returned (.int .i64 (Lib.compareInt x y))∧w'=w:=by
 go_enter Tryz.func91,Tryz.ntmps91
 go_wp2_with (go_at_call 131;refine(isNaN_any _ _).mono ?_;rintro e w' ⟨rfl,hw⟩;rw[hw])
 all_goals (go_ret;refine⟨?_,rfl⟩;unfold Lib.compareInt;(repeat' split)<;>first|rfl|(exfalso;omega))
theorem merge1_any(x y:PutK)(w:World):Calls Tryz.prog 90 #[.agg (encK x).toArray,.agg (encK y).toArray] w fun e w'=>e=.returned (.int .i64 (cfK x y))∧∃q os,w'=Go.Sort.grow (w.drewN q) os:=by
 have hcon:=fun W'=>compare_any x.1.1 y.1.1 W'
 have hx:csz (encK x).toArray=129:=by unfold csz;rw[A4V,encK_len]
 have hy:csz (encK y).toArray=129:=by unfold csz;rw[A4V,encK_len]
 have hx0:(encK x).toArray[0]?=some (.int .i64 x.1.1):=rfl
 have hy0:(encK y).toArray[0]?=some (.int .i64 y.1.1):=rfl
 unfold cfK
 generalize Lib.compareInt x.1.1 y.1.1=r at hcon ⊢
 generalize (encK x).toArray=X at *
 generalize (encK y).toArray=Y at *
 go_enter Tryz.func90,Tryz.ntmps90
 go_wp2_with fail
 refine(hcon _).mono ?_
 rintro e w' ⟨rfl,rfl⟩
 go_wp2_with fail
 go_ret
 exact⟨rfl,0,_,by rw[Go.Sort.alloc_eq_grow,Go.Sort.alloc_eq_grow,Go.Sort.grow_grow];rfl⟩
theorem cmpLaysK(b off size:Nat)(w:World):Go.Proofs.CmpLays Tryz.prog 90 #[] encK 129 cfK b off size w:=fun _ _ _ _ x y=>merge1_any x y _
theorem flatK_get{d:Array PutK}{k:Nat}{x:Value}(h:(d.toList.flatMap encK)[k]?=some x):k<d.size*129∧(Go.Sort.flatK encK 129 d)[k]! = x:=by
 obtain⟨a,h1,h2⟩:=flat_at H6 encK_len h
 have hk:k<d.size*129:=by
  have:=(A4v.1 h).1
  rwa [owl_len (fun a _=>encK_len a),A5z] at this
 refine⟨hk,?_⟩
 rw[Go.Sort.get_flatK _ _ _ _ hk]
 have h3:d[k / 129]! = a:=by
  rw[A4o] at h1
  rw[getElem!_def,h1]
 rw[h3,getElem!_def,h2]
theorem putCells_K(d:Array PutK)(l:List Pt)(sp:List Value)(hl:∀x∈l,x.2.length=128)(hn:l.length=d.size):Go.Sort.putCells id 0 (Go.Sort.flatK encK 129 d) (l.flatMap putC++sp).toArray=(d.toList.flatMap encK++sp).toArray:=by
 have hA:(l.flatMap putC).length=d.size*129:=by rw[owl_len (sz:=129) (fun a ha=>by simp[putC,hl a ha]),hn]
 have hB:(d.toList.flatMap encK).length=d.size*129:=by rw[owl_len (fun a _=>encK_len a),A5z]
 unfold Go.Sort.putCells
 refine Array.ext (by rw[Array.size_mapIdx,A4V,A4V,A4p,A4p,hA,hB]) fun k h1 h2=>?_
 rw[Array.getElem_mapIdx]
 have hz:=Go.Sort.size_flatK encK 129 d
 simp only[List.getElem_toArray]
 by_cases hk:k<d.size*129
 ·rw[if_pos ⟨Nat.zero_le _,by rw[A4D,hz];exact hk⟩,List.getElem_append_left H6]
  exact(flatK_get (A4y H6)).2
 ·rw[if_neg (by rw[A4D,hz];omega),List.getElem_append_right H6,List.getElem_append_right H6]
  congr 1
  omega
theorem sortWorld_is{w:World}{b n:Nat}{l:List Pt}{sp:List Value}{t:TypeId}(hb:blk w b=some (.cells (l.flatMap putC++sp).toArray t (0,0)))(hl:∀x∈l,x.2.length=128){d:Array PutK}(hn:l.length=d.size)(os:Array Obj) :
  Go.Proofs.sortWorldK encK 129 w b 0 n d os=grow (putRow w b ((d.toList.flatMap encK)++sp).toArray t) ⟨os,w.drawn+n⟩:=by
 have hp:=putCells_K d l sp hl hn
 have hm:w.heap.modify b (Go.Sort.onCells (Go.Sort.putCells id 0 (Go.Sort.flatK encK 129 d)))=w.heap.setIfInBounds b (.cells (d.toList.flatMap encK++sp).toArray t (0,0)):=by
  apply A5D
  intro k
  rw[A6s,Array.getElem?_setIfInBounds]
  by_cases hk:b=k
  ·subst hk
   rw[if_pos rfl,if_pos rfl]
   have h1:w.heap[b]?=some (.cells (l.flatMap putC++sp).toArray t (0,0)):=hb
   rw[h1,if_pos (A4H.1 h1).1]
   simp only[A5J,Go.Sort.onCells,hp]
  ·rw[if_neg hk,if_neg hk]
 unfold Go.Proofs.sortWorldK Go.Sort.putRowK Go.Sort.putRow Go.Sort.mapBlock Go.Sort.ahead Go.Sort.grow grow putRow
 simp only[hm]
theorem pmap_val{l:List Pt}(hl:∀x∈l,x.2.length=128):(l.pmap Subtype.mk hl).map Subtype.val=l:=by
 rw[List.map_pmap]
 simp
theorem flat_val(l:List PutK):l.flatMap encK=(l.map Subtype.val).flatMap putC:=by
 rw[List.flatMap_map]
 rfl
theorem sortFunc_any{l:List Pt}(hl:∀x∈l,x.2.length=128)(hn:l.length≤100000){b c:Nat}{sp:List Value}{t:TypeId}{w:World}(hb:blk w b=some (.cells (l.flatMap putC++sp).toArray t (0,0))) :
  Calls Tryz.prog 129 #[.slice (some ⟨b,0,none⟩) l.length c,.func (.func 90) #[] #[]] w fun e w'=>e=.returned (.tuple #[])∧∃(S:List Pt)(g:Laid),S.Perm l∧S.Pairwise (fun x y=>¬y.1<x.1)∧w'=grow (putRow w b (S.flatMap putC++sp).toArray t) g:=by
 obtain⟨d,hd⟩:∃d:Array PutK,d=(l.pmap Subtype.mk hl).toArray:=⟨_,rfl⟩
 have hdl:d.toList=l.pmap Subtype.mk hl:=by rw[hd]
 have hsz:d.size=l.length:=by rw[←A5z,hdl,List.length_pmap]
 have hfl:d.toList.flatMap encK=l.flatMap putC:=by rw[flat_val,hdl,pmap_val]
 have hH:Go.Sort.HoldsK encK 129 w b 0 d:=by
  intro j hj
  rw[Go.Sort.size_flatK] at hj
  have hlen:(d.toList.flatMap encK).length=d.size*129:=by rw[owl_len (fun a _=>encK_len a),A5z]
  have h1:=A4y (l:=d.toList.flatMap encK) (i:=j) H6
  rw[(flatK_get h1).2,A4D]
  have hb':w.heap[b]?=some (.cells (d.toList.flatMap encK++sp).toArray t (0,0)):=by rw[hfl];exact hb
  refine⟨?_,?_⟩
  ·rw[cell_of_row w b j _ t _ hb',A4w,A4M H6,h1]
   rfl
  ·exact frozen_of_row w b j _ t hb'
 have eg:∀args w,(callFunc 90 args).run Tryz.prog w=.ok (.enter 90 args) w:=enters_of Tryz.func90 G8 rfl
 have hcon:=Go.Proofs.AnyQ.slices_SortFunc sortPut 129 Tryz.isAgg93 Tryz.sizeOf93 encK encK_len encK_one cfK swoK 90 #[] b 0 c d w eg (cmpLaysK b 0 d.size w) hH (J5 hb) H6
 rw[hsz] at hcon
 refine hcon.mono ?_
 rintro e w' ⟨rfl,d',n,os,hp,hs,rfl⟩
 obtain⟨h1,-,h3⟩:=hp
 rw[hsz] at h1
 have e1:d'.extract 0 l.length=d':=by rw[←h1];exact Array.extract_size
 have e2:d.extract 0 l.length=d:=by rw[←hsz];exact Array.extract_size
 rw[e1,e2,hdl] at h3
 refine⟨rfl,d'.toList.map Subtype.val,⟨os,w.drawn+n⟩,?_,?_,?_⟩
 ·have:=h3.map Subtype.val
  rwa [pmap_val] at this
 ·rw[List.pairwise_map,List.pairwise_iff_getElem]
  intro i j hi hj hij
  have:=hs i j (Nat.zero_le _) hij (by rw[A5z] at hj;omega)
  rw[ltK] at this
  simp only[decide_eq_false_iff_not] at this
  rw[A5z] at hi hj
  rw[getElem!_pos d' j hj,getElem!_pos d' i hi] at this
  exact this
 ·rw[sortWorld_is hb hl h1.symm,flat_val]
end
section
attribute [local irreducible] putC
theorem mapValues_any(B:Nat)(w0:World)(hB:B<w0.heap.size) :
  Calls Tryz.prog 89 #[.map (some B)] w0 fun e w'=>∃Bmm t fr,e=.returned (.func (.func 130) #[] #[.pointer (some ⟨Bmm,0,none⟩)])∧blk w' Bmm=some (.cells #[.map (some B)] t fr)∧w0.heap.size≤Bmm∧Below w0.heap.size w0 w':=by
 have hS:=St.start w0
 go_enter Tryz.func89,Tryz.ntmps89
 refine Zdsm ?_;clear hS;intro b w hS
 go_ret
 exact⟨_,_,_,rfl,hS.blk 0 rfl,hS.low 0 rfl,hS.below⟩
theorem collect_any{rd:Value→Option (DataW Unit × List MemPlace)}(hrd:RdSpec rd)(l:List Pt)(hl:l.length≤1000)(ho:okP l)(Bmm B n:Nat)(D:DataW Unit)(w0:World){t:TypeId}{fr:Nat × Nat}(hm:blk w0 Bmm=some (.cells #[.map (some B)] t fr))(hown:MP.mapAt rd w0 B n D)(hD:MapOf l D) :
  Calls Tryz.prog 128 #[.func (.func 130) #[] #[.pointer (some ⟨Bmm,0,none⟩)]] w0 fun e w'=>∃sv pre,e=.returned sv∧OwnL putC 129 93 w0.heap.size w' sv pre∧(∀y∈pre,lastP l y.1=some y)∧(pre.map (·.1)).Nodup∧vAll l pre∧Below w0.heap.size w0 w':=by
 have hcon:=appendSeq_any hrd l hl ho Bmm B n D w0 hm hown hD
 have hS:=St.start w0
 go_enter Tryz.func128,Tryz.ntmps128
 refine Zdsm ?_;intro _ _ _
 refine I9 H9 H8 H8 H8 H8 H8 G2 hcon ?_
 rintro e w' ⟨sv,pre,rfl,hO,h1,h2,h3,hb⟩
 refine⟨_,rfl,?_⟩
 refine I1 ?_
 refine Zdsm ?_;show _
 go_ret
 exact⟨_,pre,rfl,hO,h1,h2,h3,hb⟩
end
section
attribute [local irreducible] putC
theorem isMerge_of{l pre S:List Pt}(h1:∀y∈pre,lastP l y.1=some y)(h2:(pre.map (·.1)).Nodup)(h3:vAll l pre)(hp:S.Perm pre)(hs:S.Pairwise (fun x y=>¬y.1<x.1)):IsMerge l S:=by
 have hnd:(S.map (·.1)).Nodup:=(hp.map (·.1)).nodup_iff.2 h2
 rw[List.Nodup,List.pairwise_map] at hnd
 refine⟨(hs.and hnd).imp fun {a b} h=>by omega,fun x=>⟨fun hx=>h1 x (hp.mem_iff.1 hx),fun hx=>?_⟩⟩
 exact hp.mem_iff.2 (h3 x.1 x hx)
theorem insSort_none(p:Option Addr)(cap:Nat)(fv:Value)(w:World):Calls Tryz.prog 167 #[.slice p 0 cap,.int .i64 0,.int .i64 0,fv] w fun e w'=>e=.returned (.tuple #[])∧w'=w:=by
 go_enter Tryz.func167,Tryz.ntmps167
 go_wp2
 refine wp_loop_rounds 1 ?_
 rw[rounds_succ]
 go_wp2
 go_end0
 exact⟨rfl,rfl⟩
theorem pdq_none(p:Option Addr)(cap:Nat)(lim:Int)(fv:Value)(w:World):Calls Tryz.prog 156 #[.slice p 0 cap,.int .i64 0,.int .i64 0,.int .i64 lim,fv] w fun e w'=>e=.returned (.tuple #[])∧w'=w:=by
 go_enter Tryz.func156,Tryz.ntmps156
 go_wp2
 refine wp_loop_rounds 1 ?_
 rw[rounds_succ]
 go_wp2_with (go_at_call 167;refine(insSort_none p cap fv _).mono ?_;rintro e w' ⟨rfl,rfl⟩)
 (try simp only[Exit.inBlock,Exit.then]);refine bodyPost_ret (results_none rfl _ _ _) rfl ?_
 exact⟨rfl,rfl⟩
theorem sortFunc_none(p:Option Addr)(cap:Nat)(fv:Value)(w:World):Calls Tryz.prog 129 #[.slice p 0 cap,fv] w fun e w'=>e=.returned (.tuple #[])∧w'=w:=by
 have hl:∀W,Calls Tryz.prog 157 #[.int .u64 0] W fun e w'=>e=.returned (.int .i64 (Lib.bitLen 0:Nat))∧w'=W:=fun W=>by
  have h:=Go.Proofs.Any.bits_Len (Go.Proofs.SlLaysF0.n15.bits (P:=Tryz.prog) (ρ:=sortPut_ren) { sortPut with }) 0 W H6 H6
  exact h
 go_enter Tryz.func129,Tryz.ntmps129
 go_wp2_with (first|(go_at_call 157;refine(hl _).mono ?_;rintro e w' ⟨rfl,rfl⟩)|(go_at_call 156;refine(pdq_none _ _ _ _ _).mono ?_;rintro e w' ⟨rfl,rfl⟩))
 go_end0
 exact⟨rfl,rfl⟩
theorem sortedFunc_any{rd:Value→Option (DataW Unit × List MemPlace)}(hrd:RdSpec rd)(l:List Pt)(hl:l.length≤1000)(ho:okP l)(Bmm B n:Nat)(D:DataW Unit)(w0:World){t:TypeId}{fr:Nat × Nat}(hm:blk w0 Bmm=some (.cells #[.map (some B)] t fr))(hown:MP.mapAt rd w0 B n D)(hD:MapOf l D) :
  Calls Tryz.prog 88 #[.func (.func 130) #[] #[.pointer (some ⟨Bmm,0,none⟩)],.func (.func 90) #[] #[]] w0 fun e w'=>∃sv R,e=.returned sv∧OwnL putC 129 93 w0.heap.size w' sv R∧IsMerge l R∧Below w0.heap.size w0 w':=by
 have hcon:=collect_any hrd l hl ho Bmm B n D w0 hm hown hD
 have hS:=St.start w0
 go_enter Tryz.func88,Tryz.ntmps88
 refine Zdsm ?_;intro _ _ _
 refine I9 H9 H8 H8 H8 H8 H8 G2 hcon ?_
 rintro e w' ⟨sv,pre,rfl,hO,h1,h2,h3,hb⟩
 refine⟨_,rfl,?_⟩
 refine I1 ?_
 rcases hO with⟨rfl,rfl⟩|⟨g,c,sp,rfl,hc,hcm,hsp,hg,hgb⟩
 ·have hS:=(St.start w0).call hb
  refine Zdsm ?_;intro _ _
  refine I9 H9 H8 H8 H8 H8 H8 G2 (sortFunc_none _ _ _ _) ?_
  rintro e w1 ⟨rfl,rfl⟩
  refine⟨_,rfl,?_⟩
  refine I1 ?_
  refine Zdsm ?_;show _
  go_ret
  exact⟨_,[],rfl,.inl ⟨rfl,rfl⟩,isMerge_of h1 h2 h3 (List.Perm.refl _) List.Pairwise.nil,hb⟩
 ·have hS:=own_st.new (St.start w0) hb hg hgb
  have hpl:∀x∈pre,x.2.length=128:=fun x hx=>(ho x (O1 (h1 x hx)).2).1
  have hpn:pre.length≤100000:=A4T (vpre_len h1 h2) H6
  refine Zdsm ?_;intro _ _
  refine I9 H9 H8 H8 H8 H8 H8 G2 (sortFunc_any hpl hpn (hS.blk 0 rfl)) ?_
  rintro e w1 ⟨rfl,S,gg,hp,hs,rfl⟩
  refine⟨_,rfl,?_⟩
  have hlen:=hp.length_eq
  replace hS:=(hS.put 0 rfl (S.flatMap putC++sp).toArray).grow gg
  generalize grow (putRow _ g _ _) gg=w2 at hS ⊢
  refine I1 ?_
  refine Zdsm ?_;show _
  go_ret
  refine⟨_,S,rfl,.inr ⟨g,c,sp,by rw[hlen];rfl,by omega,hcm,by rw[hlen];exact hsp,hg,hS.blk 0 rfl⟩,isMerge_of h1 h2 h3 hp hs,hS.below⟩
end
end
section
open Go.ChangeShapes Go.WideShapes Go.ChangeAt Go.RowKit
attribute [local irreducible] wpList wpListIn
open Go.Maps
namespace MP
attribute [local irreducible] putC
theorem merge_any(l:List Pt)(hl:l.length≤1000)(v:Value)(w0:World)(hv:PutsAt w0 v l) :
  Calls Tryz.prog 53 #[v] w0 fun e w'=>∃sv R,e=.returned sv∧OwnL putC 129 93 w0.heap.size w' sv R∧IsMerge l R∧Below w0.heap.size w0 w':=by
 obtain⟨rd,hrd⟩:=rd_exists
 obtain⟨ho,p,c,rfl,hc,hp0,hcell⟩:=hv
 have hS:=St.start w0
 obtain⟨n,hn⟩:∃n,l.length=n:=⟨_,rfl⟩
 rw[hn] at hl hc ⊢
 go_enter Tryz.func53,Tryz.ntmps53
 refine Zdsm ?_;intro _ _ _
 refine s_makeMap (rd:=rd) hS H8 H8 ?_
 clear hS
 intro B w hS
 refine I1 ?_
 refine ZdMm ?_;intro _ _
 have hm0:=Tryz.underlying164
 go_loopw [5,9] (fun u5 u9 wr=>∃(k:Nat)(D:DataW Unit),k≤n∧u9=.int .i64 (k:Int)∧MapOf (l.take k) D∧StM rd w0 B k D wr []) (fun _ u9 _=>n - (intOf u9).toNat)
 case atStart=>exact⟨0,_,by omega,rfl,mapOf_nil,hS⟩
 case round =>
  clear hS
  obtain⟨k,D,hk,rfl,hD,hS⟩:=hrel
  by_cases hlt:k<n
  ·obtain⟨⟨a,C⟩,hx⟩:∃x,l[k]?=some x:=⟨_,A4y H6⟩
   obtain⟨b,o,cs,ty,fr,rfl,hb,hcc⟩:=hcell D4
   obtain⟨lC,c1,c2,c3,c4⟩:=put_cells ho hcc hx
   have hr : -9223372036854775808≤a∧a≤9223372036854775807:=(ho _ (A5a hx)).2
   have htk:l.take (k+1)=l.take k++[(a,C)]:=by rw[A5S,hx];rfl
   have s1:csz (hdV a C)=129:=by rw[L6,lC]
   have s2:csz (hdV 0 (zs 128))=129:=by rw[L6,zs_len]
   have hD2:MapOf (l.take (k+1)) (D.put (.int .i64 a) (dP (a,C))):=by rw[htk];exact mapOf_snoc hD (a,C)
   repeat' (first|refine ZbMm ?_|((with_reducible refine cons_list ?_);first|((first|refine J4 H9 own_stM hS ?_ (hv:=by rw[A4o];first|exact c3|exact c2)|refine I7 H9 E5 ?_ (hv:=by first|rfl|exact bvs_getLA|(rw[A4o];first|exact c3|exact c2))|refine J3 H9 own_stM hS ?_ (hv:=by first|(first|exact c3|exact c2)|rfl)|refine I8 H9 E5 ?_ (hv:=by first|exact I6 _ _ A8|(first|exact c3|exact c2)|rfl)|refine J1 H9 ?_ (hv':=by first|exact bvs_getLA|(rw[A4o];first|exact c3|exact c2)))<;>refine I1 ?_))|(refine ZkM ?_;clear hS;intro b w hS)|(refine ZtMm ?_;clear hS;intro w hS)|(refine Zc ?_ ?_<;>intro hc)|((with_reducible refine cons_list ?_);first|(refine J8 H9 own_stM hS ?_ (hv:=P1 _ _);clear hS;intro w hS;refine I1 ?_))|(refine Zg ?_;first|go_step|go_step3|refine Zr ?_)|fail)
   refine s_update hrd hS H8 H8 hm0 H6 H8 H8 H8 (z:=(a,C)) hr ⟨lC,hr⟩ ?_
   clear hS
   intro w hS
   refine I1 ?_
   refine ZdMm ?_;show _
   go_roundw
   case rel=>exact⟨k+1,_,by omega,by push_cast;rfl,hD2,own_stM.sub hS (fun _ h=>absurd h A5b) List.nodup_nil⟩
   case measure=>first|(simp[intOf];done)|(simp[intOf];omega)
  ·obtain rfl:k=n:=by omega
   have htl:l.take k=l:=A4B H6
   rw[htl] at hD
   refine ZdMm ?_;intro _ _ _ _ _
   refine I9 H9 H8 H8 H8 H8 H8 G2 (mapValues_any B _ (map_obj hS.2.1).1) ?_
   rintro e w1 ⟨Bmm,t,fr,rfl,hm,hlow,hb⟩
   refine⟨_,rfl,?_⟩
   replace hS:=own_stM.call hS hb
   refine I1 ?_
   refine ZdMm ?_;show _
   refine I9 H9 H8 H8 H8 H8 H8 G2 (sortedFunc_any hrd l H6 ho Bmm B k D _ hm hS.2.1 hD) ?_
   rintro e w2 ⟨sv,R,rfl,hO,hR,hb2⟩
   refine⟨_,rfl,?_⟩
   have hsz:=hS.1.1.size
   have hBel:=hS.1.1.trans (hb2.mono hsz)
   replace hS:=own_stM.call hS hb2
   refine I1 ?_
   refine ZdMm ?_;show _
   go_ret
   refine⟨_,R,rfl,?_,hR,hBel⟩
   rcases hO with h|⟨g,c,sp,h1,h2,h3,h4,h5,h6⟩
   ·exact .inl h
   ·exact .inr ⟨g,c,sp,h1,h2,h3,h4,A4T hsz h5,h6⟩
end MP
end
section
open Go.ChangeShapes Go.WideShapes Go.ChangeAt Go.RowKit
attribute [local irreducible] wpList wpListIn Oper.quietAt wpM
section
theorem Own.mem{B:Nat}{H:World→List Blk→Prop}(hH:Own B H){w:World}{L:List Blk}{b:Nat}{cs:Array Value}{t:TypeId}(h:H w L)(hm:(b,cs,t)∈L):Go.Proofs.YtggbbafanhceaaaGreatRR.blk w b=some (.cells cs t (0,0)):=by
 obtain⟨i,hi⟩:=List.getElem?_of_mem hm
 exact hH.blk i h hi
def midC(pre:List Value)(M:List UInt8)(post:List Value):Array Value:=(pre++(M.map bv++post)).toArray
section
variable{pre post:List Value}{M l:List UInt8}{o n q:Nat}
theorem V7:csz (midC pre M post)=pre.length+M.length+post.length:=by unfold csz midC;simp[A6c]
theorem mid_cut(hp:0<pre.length)(hq:q=pre.length+o)(h:o+n≤M.length):cut (midC pre M post) q n=bvs (sl M o n):=by
 subst hq
 unfold cut midC
 rw[if_neg H6]
 apply Array.ext'
 unfold sl bvs
 rw[A6J,A5U,A5g]
 show ((pre++(M.map bv++post)).drop (pre.length+o)).take n=((M.drop o).take n).map bv
 rw[List.drop_length_add_append,A5l E9,A4Z (by rw[A4J,A4z];omega),A6g,A6m]
theorem mid_paste(hp:0<pre.length)(hq:q=pre.length+o)(h:o+l.length≤M.length):paste (midC pre M post) q (bvs l)=midC pre (owL M o l) post:=by
 subst hq
 unfold paste
 rw[if_neg H6]
 unfold splice midC owL
 have e1:(pre++(M.map bv++post)).take (pre.length+o)=pre++(M.take o).map bv:=by
  rw[A6B,A4Z E9,A6g]
 have e2:(pre++(M.map bv++post)).drop (pre.length+o+(bvs l).size)=(M.drop (o+l.length)).map bv++post:=by
  rw[A0W,A6c,List.drop_length_add_append,A5l E9,A6m]
 rw[e1,e2]
 simp[bvs]
theorem A0f(h:q<pre.length):(midC pre M post)[q]?=pre[q]?:=by unfold midC;rw[A4w,A4M h]
theorem A1J(hq:q=pre.length+M.length+o):(midC pre M post)[q]?=post[o]?:=by
 subst hq
 unfold midC
 rw[A4w,A4Q H6,A4Q E9,A4z]
 congr 1;omega
theorem mid_setPre(h:q<pre.length)(v:Value):(midC pre M post).setIfInBounds q v=midC (pre.set q v) M post:=by
 unfold midC
 rw[A4q,List.set_append_left _ _ h]
theorem Y3(hq:q=pre.length+M.length+o)(v:Value):(midC pre M post).setIfInBounds q v=midC pre M (post.set o v):=by
 subst hq
 unfold midC
 rw[A4q,A5Q _ _ H6,A5Q _ _ E9,A4z]
 congr 3
 congr 1
 omega
theorem A0K{w:World}{b c:Nat}{t:TypeId}{fr:Nat × Nat}(hb:blk w b=some (.cells (midC pre M post) t fr))(hq:q=pre.length+o)(h:o+n≤M.length)(hc:n≤c):BytesAt w (.slice (some ⟨b,q,none⟩) n c) (sl M o n):=by
 subst hq
 refine O7 hb (sl_len h) hc fun j x hj=>?_
 rw[A1v] at hj
 split at hj
 ·unfold midC
  rw[A4w,A4Q H6,A4M E9,A4U,show pre.length+o+j - pre.length=o+j by omega,hj];rfl
 ·cases hj
theorem mid_ones(h1:pre.all (·.oneCell')=true)(h2:post.all (·.oneCell')=true):ones (midC pre M post)=true:=by
 unfold midC
 refine ones_lit ?_
 rw[List.all_append,List.all_append,h1,h2,List.all_map]
 simp[Value.oneCell',bv]
theorem mid_inner{p1 p2 q1 q2:List Value}(hp:0<p1.length)(hq:q=p1.length)(hn:n=p2.length+M.length+q1.length):cut (midC (p1++p2) M (q1++q2)) q n=midC p2 M q1:=by
 subst hq hn
 unfold cut
 rw[if_neg H6]
 unfold midC
 apply Array.ext'
 rw[A6J,A5U,A5g]
 show ((p1++p2++(M.map bv++(q1++q2))).drop p1.length).take _=p2++(M.map bv++q1)
 rw[A4E,A5P rfl,show p2++(M.map bv++(q1++q2))=(p2++(M.map bv++q1))++q2 by simp only[A4E],A5k (by simp[A6c])]
theorem mid_outer{p1 p2 p2' q1 q1' q2:List Value}{M':List UInt8}(hp:0<p1.length)(hq:q=p1.length)(h1:p2'.length=p2.length)(h2:M'.length=M.length)(h3:q1'.length=q1.length):paste (midC (p1++p2) M (q1++q2)) q (midC p2' M' q1')=midC (p1++p2') M' (q1'++q2):=by
 subst hq
 unfold paste
 rw[if_neg H6]
 unfold splice midC
 have e1:(p1++p2++(M.map bv++(q1++q2))).take p1.length=p1:=by rw[A4E,A5k rfl]
 have e2:(p1++p2++(M.map bv++(q1++q2))).drop (p1.length+(p2'++(M'.map bv++q1')).toArray.size)=q2:=by
  rw[show p1++p2++(M.map bv++(q1++q2))=(p1++(p2++(M.map bv++q1)))++q2 by simp only[A4E]]
  exact A5P (by simp[h1,h2,h3])
 rw[e1,e2]
 simp
end
def BytesM(L:List Blk)(v:Value)(l:List UInt8):Prop:=∃(b o c:Nat)(cs:Array Value)(ty:TypeId),v=.slice (some ⟨b,o,none⟩) l.length c∧l.length≤c∧(b,cs,ty)∈L∧∀i x,l[i]?=some x→cs[o+i]?=some (bv x)
def PutsM(L:List Blk)(v:Value)(l:List Pt):Prop:=okP l∧((v=.slice none 0 0∧l=[])∨∃(b o c:Nat)(cs:Array Value)(ty:TypeId),v=.slice (some ⟨b,o,none⟩) l.length c∧l.length≤c∧(b,cs,ty)∈L∧∀j x,(putsC l)[j]?=some x→cs[o+j]?=some x)
def CellsM(L:List Blk)(v:Value)(X:List UInt8)(k:Nat):Prop:=X.length=128*k∧∃(b o c:Nat)(cs:Array Value)(ty:TypeId),v=.slice (some ⟨b,o,none⟩) k c∧k≤c∧(b,cs,ty)∈L∧∀j x,X[j]?=some x→cs[o+j]?=some (bv x)
def TreeM(L:List Blk)(v:Value)(t:List UInt8):Prop:=t.length=1024∧∃(b c:Nat)(sp:List Value)(ty:TypeId),v=.slice (some ⟨b,0,none⟩) 32 c∧32≤c∧c≤maxLen∧(b,(t.map bv++sp).toArray,ty)∈L
section
variable{B:Nat}{H:World→List Blk→Prop}{w:World}{L L':List Blk}{v:Value}
theorem BytesM.mono{l:List UInt8}(h:BytesM L v l)(hs:∀x∈L,x∈L'):BytesM L' v l:=by obtain⟨b,o,c,cs,ty,h1,h2,h3,h4⟩:=h;exact⟨b,o,c,cs,ty,h1,h2,hs _ h3,h4⟩
theorem PutsM.mono{l:List Pt}(h:PutsM L v l)(hs:∀x∈L,x∈L'):PutsM L' v l:=⟨h.1,h.2.imp id fun ⟨b,o,c,cs,ty,h1,h2,h3,h4⟩=>⟨b,o,c,cs,ty,h1,h2,hs _ h3,h4⟩⟩
theorem TreeM.mono{t:List UInt8}(h:TreeM L v t)(hs:∀x∈L,x∈L'):TreeM L' v t:=by obtain⟨h0,b,c,sp,ty,h1,h2,h3,h4⟩:=h;exact⟨h0,b,c,sp,ty,h1,h2,h3,hs _ h4⟩
theorem BytesM.at{l:List UInt8}(h:BytesM L v l)(hH:Own B H)(hS:H w L')(hs:∀x∈L,x∈L'):BytesAt w v l:=by
 obtain⟨b,o,c,cs,ty,rfl,h2,h3,h4⟩:=h
 exact O7 (hH.mem hS (hs _ h3)) rfl h2 h4
theorem PutsM.at{l:List Pt}(h:PutsM L v l)(hH:Own B H)(hS:H w L')(hs:∀x∈L,x∈L'):PutsAt w v l:=by
 obtain⟨h0,⟨rfl,rfl⟩|⟨b,o,c,cs,ty,rfl,h2,h3,h4⟩⟩:=h
 ·exact PutsAt.nil w
 ·exact⟨h0,_,c,rfl,h2,(fun h=>by cases h),fun _=>⟨b,o,cs,ty,_,rfl,hH.mem hS (hs _ h3),h4⟩⟩
theorem CellsM.at{X:List UInt8}{k:Nat}(h:CellsM L v X k)(hH:Own B H)(hS:H w L')(hs:∀x∈L,x∈L'):CellsAt w v X k:=by
 obtain⟨h0,b,o,c,cs,ty,rfl,h2,h3,h4⟩:=h
 exact⟨h0,_,c,rfl,h2,(fun h=>by cases h),fun _=>⟨b,o,cs,ty,_,rfl,hH.mem hS (hs _ h3),h4⟩⟩
theorem TreeM.at{t:List UInt8}(h:TreeM L v t)(hH:Own B H)(hS:H w L')(hs:∀x∈L,x∈L'):TreeAt w v t:=by
 obtain⟨h0,b,c,sp,ty,rfl,h2,h3,h4⟩:=h
 exact⟨h0,b,c,sp,ty,_,rfl,h2,h3,hH.mem hS (hs _ h4)⟩
end
end
section
section
variable{rd:Rdr}{w00 w0:World}{g:G4}{N:Nat}{su:List UInt8}{l:List Pt}{co:List Int}{L:List Blk}
theorem pwrite_on(hrd:RdCel rd)(hD:Dk rd w00 g Fon N su l co w0 L)(cn bs:Int)(hbs:0≤bs∧bs≤2048)(ps:List Pt)(pv:Value)(hps:PutsM L pv ps)(hin:∀x∈ps,0≤x.1∧bs+x.1<(N:Int))(hlen:l.length+ps.length<100000) :
  Calls Tryz.prog 67 #[.agg #[.pointer (some ⟨g.P,0,none⟩),.int .i64 cn,.int .i64 bs],pv] w0 fun e w'=>e=.returned .nilIface∧Dk rd w00 g Fon N su (l++shiftP bs ps) co w' L:=by
 obtain⟨ho,hpv⟩:=hps
 have hNN:=hD.ok.1
 obtain⟨n,hn⟩:∃n,ps.length=n:=⟨_,rfl⟩
 obtain⟨p,c,rfl,hp⟩:∃p c,pv=.slice p n c∧(0<n→∃(b o:Nat)(cs:Array Value)(ty:TypeId),p=some ⟨b,o,none⟩∧(b,cs,ty)∈L∧∀j x,(putsC ps)[j]?=some x→cs[o+j]?=some x):=by
  rcases hpv with⟨rfl,rfl⟩|⟨b,o,c,cs,ty,rfl,h2,h3,h4⟩
  ·subst hn;exact⟨none,0,rfl,fun h=>by simp at h⟩
  ·subst hn;exact⟨_,_,rfl,fun _=>⟨b,o,cs,ty,rfl,h3,h4⟩⟩
 rw[hn] at hlen
 have hS:=hD
 have h100:n<100000:=by omega
 go_enter Tryz.func67,Tryz.ntmps67
 refine ZdKm ?_;clear hS;intro _ b w hS _ _
 go_loopw [10] (fun u10 wr=>∃k:Nat,k≤n∧u10=.int .i64 (k:Int)∧Dk rd w00 g Fon N su (l++shiftP bs (ps.take k)) co wr ((b,#[.pointer (some ⟨g.P,0,none⟩),.int .i64 cn,.int .i64 bs],75)::L)) (fun u10 _=>n - (intOf u10).toNat)
 case atStart=>exact⟨0,by omega,rfl,by rw[A4Y,show shiftP bs []=[] from rfl,A4S];exact hS⟩
 case round =>
  clear hS hD
  obtain⟨k,hk,rfl,hS⟩:=hrel
  by_cases hlt:k<n
  ·obtain⟨⟨a,C⟩,hx⟩:∃x,ps[k]?=some x:=⟨_,A4y H6⟩
   obtain⟨b0,o0,cs,ty,rfl,hb,hcc⟩:=hp H6
   obtain⟨lC,d1,d2,d3,d4⟩:=put_cells ho hcc hx
   have hxr:=hin _ (A5a hx)
   obtain⟨hx1,hx2⟩:=hxr
   dsimp only at hx1 hx2
   have s1:csz (hdV a C)=129:=by rw[L6,lC]
   have sZ:csz (hdV 0 (zs 128))=129:=by rw[L6,zs_len]
   have hcut:cut (hdV a C) 1 128=bvs C:=by
    have:=hd_cut a (B:=C) (o:=0) (m:=128) H6
    rwa [A5V,A4B H6] at this
   have htk:l++shiftP bs (ps.take (k+1))=l++shiftP bs (ps.take k)++[(bs+a,C)]:=by
    rw[A5S,hx]
    unfold shiftP
    rw[A4N,A4E];rfl
   have hll:(l++shiftP bs (ps.take k)).length<100000:=by rw[A4p,shiftP_len,A4u];omega
   repeat' (first|((with_reducible refine cons_list ?_);first|(refine J8 H9 own_dk hS ?_ (hv:=P1 _ _);clear hS;intro w hS;refine I1 ?_))|refine ZbKm ?_|((with_reducible refine cons_list ?_);first|((first|refine J4 H9 own_dk hS ?_ (hv:=by rw[A4o];first|exact d2|exact hcut)|refine I7 H9 (by first|exact Own.mem own_dk hS (by repeat (first|exact hb|refine A4A _ ?_))) ?_ (hv:=by first|rfl|exact bvs_getLA|(rw[A4o];first|exact d2|exact hcut))|refine J3 H9 own_dk hS ?_ (hv:=by first|(first|exact d2|exact hcut)|rfl)|refine I8 H9 (by first|exact Own.mem own_dk hS (by repeat (first|exact hb|refine A4A _ ?_))) ?_ (hv:=by first|exact I6 _ _ A8|(first|exact d2|exact hcut)|rfl)|refine J1 H9 ?_ (hv':=by first|exact bvs_getLA|(rw[A4o];first|exact d2|exact hcut)))<;>refine I1 ?_))|(refine ZkK ?_;clear hS;intro b w hS)|(refine ZtKm ?_;clear hS;intro w hS)|(refine Zc ?_ ?_<;>intro hc)|(refine Zg ?_;first|go_step|go_step3|refine Zr ?_)|fail)
   refine I9 H9 H8 H8 H8 H8 H8 G2 (write_on hrd hS (bs+a) C ⟨by omega,hx2⟩ lC hll) ?_
   clear hS
   rintro e w3 ⟨rfl,hS⟩
   refine⟨_,rfl,?_⟩
   rw[←htk] at hS
   refine I1 ?_
   refine ZdKm ?_;show _
   go_roundw
   case rel=>exact⟨k+1,by omega,by push_cast;rfl,own_dk.drop hS⟩
   case measure=>first|(simp[intOf];done)|(simp[intOf];omega)
  ·obtain rfl:k=n:=by omega
   rw[A4B H6] at hS
   refine ZdKm ?_;intro _ _ _
   go_ret
   exact⟨rfl,own_dk.drop hS⟩
theorem Dk.blkP{F:Bool→Int→Bool→Prop}{w:World}(h:Dk rd w00 g F N su l co w L):∃ar lf dn st,blk w g.P=some (.cells (pC ar lf dn st g.S g.C g.B N co.length) 109 (0,0))∧blk w g.C=some (.cells (vints co) 3 (0,0)):=by
 obtain⟨ar,lf,dn,st,D,_,_,_,_,_,hS⟩:=h
 exact⟨ar,lf,dn,st,MP.own_stM.blk 0 hS rfl,MP.own_stM.blk 2 hS rfl⟩
theorem Dk.start{F:Bool→Int→Bool→Prop}{w w':World}(h:Dk rd w00 g F N su l co w L)(hb:Below w.heap.size w w'):Dk rd w00 g F N su l co w' L:=own_dk.call h hb
theorem A3M(hrd:RdCel rd)(hD:Dk rd w00 g Fon N su [] co w0 L)(cn bs:Int)(hbs:0≤bs∧bs≤2048)(za n:Nat)(hn:bs+za+n≤(N:Int))(hz:za≤2048∧n≤2048) :
  Calls Tryz.prog 73 #[.agg #[.pointer (some ⟨g.P,0,none⟩),.int .i64 cn,.int .i64 bs],.int .i64 (za:Int),.int .i64 (n:Int)] w0 fun e w'=>∃gx,e=.returned (.tuple #[.slice (some ⟨gx,0,none⟩) n n,.nilIface])∧w0.heap.size≤gx∧blk w' gx=some (.cells (bvs (sl su (128*(bs.toNat+za)) (128*n))) 39 (0,0))∧Below w0.heap.size w0 w':=by
 have hok:=hD.ok
 have hsu:=hok.2.1
 have hNN:=hok.1
 have hS:=St.start w0
 have hmz:madeCells (bvs (zs 128)) (n*128)=bvs (zs (128*n)):=by rw[made_cels,A6j]
 obtain⟨q1,q2⟩:=hz
 obtain⟨X,hX⟩:∃X,sl su (128*(bs.toNat+za)) (128*n)=X:=⟨_,rfl⟩
 have lX:X.length=128*n:=by rw[←hX];exact sl_len H6
 have hcX:∀k,k<n→celX su (bs.toNat+za+k)=celX X k:=fun k hk=>by
  rw[←hX,P9,P9,Z1 H6]
  congr 1;omega
 rw[hX]
 clear hX
 go_enter Tryz.func73,Tryz.ntmps73
 repeat' (first|((with_reducible refine cons_list ?_);first|(refine S0 (n:=n) H9 own_st hS H8 H8 H8 H8 G2 G2 hmz H6 H6 ?_;clear hS;intro gx w hS;refine I1 ?_))|refine Zasm ?_|(refine Zks ?_;clear hS;intro b w hS)|(refine Ztsm ?_;clear hS;intro w hS)|(refine Zc ?_ ?_<;>intro hc)|(refine Zg ?_;first|go_step|go_step3|refine Zr ?_)|fail)
 have hnx:∀k,k<n→paste (bvs (X.take (128*k)++zs (128*(n - k)))) (k*128) (bvs (celX X k))=bvs (X.take (128*(k+1))++zs (128*(n - (k+1)))):=fun k hk=>by
  have lk:(X.take (128*k)).length=128*k:=by rw[A4u];omega
  have lc:=celX_len lX hk
  rw[paste_owL (by rw[A4p,lk,zs_len,lc];omega)]
  unfold owL
  rw[lc,A5k H6,A5O,A4F H6,A4x,lk,celX_next,A4E]
  congr 3
  unfold zs
  rw[A5A]
  congr 1;omega
 have sO:∀k,k≤n→csz (bvs (X.take (128*k)++zs (128*(n - k))))=128*n:=fun k hk=>by rw[I2,A4p,A4u,zs_len];omega
 go_loopw [16] (fun u16 wr=>∃k:Nat,k≤n∧u16=.int .i64 (k:Int)∧St w0 wr [(gx,bvs (X.take (128*k)++zs (128*(n - k))),39),(b,#[.pointer (some ⟨g.P,0,none⟩),.int .i64 cn,.int .i64 bs],75)]) (fun u16 _=>n - (intOf u16).toNat)
 case atStart=>exact⟨0,by omega,rfl,by rw[A6I,A4Y,A4x,A5H];exact hS⟩
 case round =>
  clear hS
  obtain⟨k,hk,rfl,hS⟩:=hrel
  by_cases hlt:k<n
  ·have hrdc:=fun w (hw:Dk rd w00 g Fon N su [] co w L)=>read_on (w0:=w) hrd hw (bs+za+k) ⟨by omega,by omega⟩
   rw[show (bs+(za:Int)+(k:Int)).toNat=bs.toNat+za+k by omega,hcX k hlt] at hrdc
   have lc:=celX_len lX hlt
   have hps:=hnx k hlt
   have sOk:=sO k hk
   obtain⟨C,hC⟩:∃C,celX X k=C:=⟨_,rfl⟩
   rw[hC] at hrdc lc hps
   have sC:csz (bvs C)=128:=by rw[I2,lc]
   have sZ:csz (bvs (zs 128))=128:=by rw[I2,zs_len]
   repeat' (first|((with_reducible refine cons_list ?_);first|(refine J0 H9 own_st hS (hrdc _ (hD.start hS.below)) ?_;clear hS;intro w hS;refine I1 ?_))|refine Zasm ?_|(refine Zks ?_;clear hS;intro b w hS)|(refine Ztsm ?_;clear hS;intro w hS)|(refine Zc ?_ ?_<;>intro hc)|(refine Zg ?_;first|go_step|go_step3|refine Zr ?_)|fail)
   rw[hps] at hS
   go_roundw
   case rel=>exact⟨k+1,by omega,by push_cast;rfl,hS.erase 0⟩
   case measure=>first|(simp[intOf];done)|(simp[intOf];omega)
  ·obtain rfl:k=n:=by omega
   rw[show X.take (128*k)++zs (128*(k - k))=X by rw[A4B H6,A6E];simp[zs]] at hS
   refine Zdsm ?_;intro _ _ _
   go_ret2
   exact⟨gx,rfl,hS.low 0 rfl,hS.blk 0 rfl,hS.below⟩
def fitsP(N:Nat)(co:List Int)(cn bs:Int):Bool:=decide (0≤cn∧cn<(co.length:Int)) && decide (0≤bs) && decide (117≤(N:Int) - bs)
theorem fits_any{F:Bool→Int→Bool→Prop}(hD:Dk rd w00 g F N su l co w0 L)(cn bs:Int)(hbr:i64R bs)(q:Bool)(hq:fitsP N co cn bs=q) :
  Calls Tryz.prog 40 #[.agg #[.pointer (some ⟨g.P,0,none⟩),.int .i64 cn,.int .i64 bs]] w0 fun e w'=>e=.returned (.bool q)∧Below w0.heap.size w0 w':=by
 have hok:=hD.ok
 have hNN:=hok.1
 obtain⟨ar,lf,dn,st,hP,hC⟩:=hD.blkP
 have hS:=St.start w0
 have hct:=fun w h1 h2=>Y4 (w0:=w) (p:=g.P) (ar:=ar) (dn:=dn) (lf:=lf) (st:=st) (S:=g.S) (C:=g.C) (B:=g.B) (N:=N) (fr:=(0,0)) (ty:=109) (ty2:=3) hok.2.2.2.1.2 cn h1 h2
 have hsz:=fun w h=>size_any (w0:=w) (p:=g.P) (ar:=ar) (dn:=dn) (lf:=lf) (st:=st) (S:=g.S) (C:=g.C) (B:=g.B) (K:=co.length) (N:=N) (fr:=(0,0)) (ty:=109) hNN.2 h
 unfold i64R at hbr
 by_cases h1:0≤cn∧cn<(co.length:Int)
 ·have e1:cntV co cn=.tuple #[.int .i64 (co.getD cn.toNat 0),.nilIface]:=if_pos h1
  rw[e1] at hct
  obtain⟨x,hx⟩:∃x,co.getD cn.toNat 0=x:=⟨_,rfl⟩
  rw[hx] at hct
  by_cases h2:0≤bs
  ·by_cases h3:(117:Int)≤(N:Int) - bs
   ·obtain rfl:q=true:=by rw[←hq];unfold fitsP;simp[h1,h2,h3]
    go_enter Tryz.func40,Tryz.ntmps40
    repeat' (first|refine Zasm ?_|(refine Zks ?_;clear hS;intro b w hS)|(refine Ztsm ?_;clear hS;intro w hS)|(refine Zc ?_ ?_<;>intro hc)|((with_reducible refine cons_list ?_);first|(refine J0 H9 own_st hS (hct _ (hS.far hP).1 (hS.far hC).1) ?_;clear hS;intro w hS;refine I1 ?_))|(refine Zg ?_;first|go_step|go_step3|refine Zr ?_)|fail)
    refine I5 16 G8 G8 ?_
    dsimp only[List.take,List.drop]
    iterate 16 (first|(refine Zw ?_;apply Exists.intro;refine⟨fun pB w' hw' hF=>?_,?_⟩;(focus (have hZ:=(own_st).call hS hw';first|exact(K6 (hsz _ (hZ.far hP).1))));refine Zo ?_)|refine ZQm ?_|refine ZQs ?_|refine ZQa ?_|refine ZQz ?_)
    refine Zn own_st hS ?_
    clear hS
    intro pB w hS
    try dsimp only
    refine Zdsm ?_;show _
    go_ret
    exact⟨rfl,hS.below⟩
   ·obtain rfl:q=false:=by rw[←hq];unfold fitsP;simp[h3]
    go_enter Tryz.func40,Tryz.ntmps40
    repeat' (first|refine Zasm ?_|(refine Zks ?_;clear hS;intro b w hS)|(refine Ztsm ?_;clear hS;intro w hS)|(refine Zc ?_ ?_<;>intro hc)|((with_reducible refine cons_list ?_);first|(refine J0 H9 own_st hS (hct _ (hS.far hP).1 (hS.far hC).1) ?_;clear hS;intro w hS;refine I1 ?_))|(refine Zg ?_;first|go_step|go_step3|refine Zr ?_)|fail)
    refine I5 16 G8 G8 ?_
    dsimp only[List.take,List.drop]
    iterate 16 (first|(refine Zw ?_;apply Exists.intro;refine⟨fun pB w' hw' hF=>?_,?_⟩;(focus (have hZ:=(own_st).call hS hw';first|exact(K6 (hsz _ (hZ.far hP).1))));refine Zo ?_)|refine ZQm ?_|refine ZQs ?_|refine ZQa ?_|refine ZQz ?_)
    refine Zn own_st hS ?_
    clear hS
    intro pB w hS
    try dsimp only
    refine Zdsm ?_;show _
    go_ret
    exact⟨rfl,hS.below⟩
  ·obtain rfl:q=false:=by rw[←hq];unfold fitsP;simp[h2]
   go_enter Tryz.func40,Tryz.ntmps40
   repeat' (first|refine Zasm ?_|(refine Zks ?_;clear hS;intro b w hS)|(refine Ztsm ?_;clear hS;intro w hS)|(refine Zc ?_ ?_<;>intro hc)|((with_reducible refine cons_list ?_);first|(refine J0 H9 own_st hS (hct _ (hS.far hP).1 (hS.far hC).1) ?_;clear hS;intro w hS;refine I1 ?_))|(refine Zg ?_;first|go_step|go_step3|refine Zr ?_)|fail)
   refine I5 16 G8 G8 ?_
   dsimp only[List.take,List.drop]
   iterate 16 (first|(refine Zw ?_;apply Exists.intro;refine⟨fun pB w' hw' hF=>?_,?_⟩;(focus (have hZ:=(own_st).call hS hw';first|exact(K6 (hsz _ (hZ.far hP).1))));refine Zo ?_)|refine ZQm ?_|refine ZQs ?_|refine ZQa ?_|refine ZQz ?_)
   refine Zn own_st hS ?_
   clear hS
   intro pB w hS
   try dsimp only
   refine Zdsm ?_;show _
   go_ret
   exact⟨rfl,hS.below⟩
 ·have e1:cntV co cn=.tuple #[.int .i64 0,.iface 54 (.int .i64 1)]:=if_neg h1
  rw[e1] at hct
  obtain rfl:q=false:=by
   rw[←hq];unfold fitsP;rw[decide_eq_false h1];simp
  go_enter Tryz.func40,Tryz.ntmps40
  repeat' (first|refine Zasm ?_|(refine Zks ?_;clear hS;intro b w hS)|(refine Ztsm ?_;clear hS;intro w hS)|(refine Zc ?_ ?_<;>intro hc)|((with_reducible refine cons_list ?_);first|(refine J0 H9 own_st hS (hct _ (hS.far hP).1 (hS.far hC).1) ?_;clear hS;intro w hS;refine I1 ?_))|(refine Zg ?_;first|go_step|go_step3|refine Zr ?_)|fail)
  refine I5 16 G8 G8 ?_
  dsimp only[List.take,List.drop]
  iterate 16 (first|(refine Zw ?_;apply Exists.intro;refine⟨fun pB w' hw' hF=>?_,?_⟩;(focus (have hZ:=(own_st).call hS hw';first|exact(K6 (hsz _ (hZ.far hP).1))));refine Zo ?_)|refine ZQm ?_|refine ZQs ?_|refine ZQa ?_|refine ZQz ?_)
  refine Zn own_st hS ?_
  clear hS
  intro pB w hS
  try dsimp only
  refine Zdsm ?_;show _
  go_ret
  exact⟨rfl,hS.below⟩
end
end
end
end Go.Proofs.YtggbbafanhceaaaGreatRR
