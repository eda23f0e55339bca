/-
  Laws that the claims of this seat use, of several texts in one. No condition of their own.
-/
import Derived.Test.YtggbbafanhceaaaGreatRRJ31
set_option maxRecDepth 100000
set_option maxHeartbeats 8000000
set_option linter.all false
namespace Go.Proofs.YtggbbafanhceaaaGreatRR
section
open Go.ChangeShapes Go.WideShapes Go.ChangeAt Go.RowKit
attribute [local irreducible] wpList wpListIn Oper.quietAt wpM
open Go.Maps
theorem vpre_len{l pre:List Pt}(h1:∀y∈pre,lastP l y.1=some y)(h2:(pre.map (·.1)).Nodup):pre.length≤l.length:=by
 have:=nodup_le (b:=l.map (·.1)) h2 (fun a ha=>by
  obtain⟨y,hy,rfl⟩:=A4M.1 ha
  exact A4M.2 ⟨y,(P1 (h1 y hy)).2,rfl⟩)
 rwa [A4D,A4D] at this
theorem appendSeq_any{rd:Value→Option (DataW Unit × List MemPlace)}(hrd:RdSpec rd)(l:List Pt)(hl:l.length≤1000)(ho:okP l)(Bmm B n:Nat)(D:DataW Unit)(w0:World){t:TypeId}{fr:Nat × Nat}(hm:blk w0 Bmm=some (.cells #[.map (some B)] t fr))(hown:MP.mapAt rd w0 B n D)(hD:MapOf l D) :
  Calls Tryz.prog 155 #[.slice none 0 0,.func (.func 130) #[] #[.pointer (some ⟨Bmm,0,none⟩)]] w0 fun e w'=>∃sv pre,e=.returned sv∧OwnL putC 129 93 w0.heap.size w' sv pre∧(∀y∈pre,lastP l y.1=some y)∧(pre.map (·.1)).Nodup∧vAll l pre∧Below w0.heap.size w0 w':=by
 have hS:=St.start w0
 have hit:=fun W0 h1 h2=>values1_iter hrd l ho Bmm B n D W0 (t:=t) (fr:=fr) h1 h2 hD
 refine R7 Tryz.func155 rfl ?_
 simp only[Tryz.ntmps155,A4X,A4J,A4Z,Nat.reduceAdd,Nat.reduceSub,A5t,A5u,A5G,A5w,A4A,A4K]
 repeat' (first|refine Zasm ?_|(refine Zks ?_;clear hS;intro b w hS)|(refine Ztsm ?_;clear hS;intro w hS)|(refine Zc ?_ ?_<;>intro hc)|(refine Zg ?_;first|go_step|go_step3|refine Zr ?_)|fail)
 obtain⟨bS,hbS⟩:∃x,x=b:=⟨_,rfl⟩
 rw[←hbS] at hS ⊢
 clear hbS
 have hBlt:=(MP.map_obj hown).1
 have hlow:=hS.low 0 rfl
 refine wp_range_boxL (arg:=fun x:Pt=>#[.agg (hdV x.1 x.2)]) (nxt:=vNext l) (fin:=vAll l) (R:=[Bmm,B]) (gf:=130) (lb:=#[.pointer (some ⟨Bmm,0,none⟩)]) I2 F6 (hit w0 hm hown) hS.below (fun _=>rfl)
  (fun pre L=>(∀y∈pre,lastP l y.1=some y)∧(pre.map (·.1)).Nodup∧∃sv Lr,OwL putC 129 93 pre sv Lr∧L=(bS,(#[sv]:Array Value),72)::Lr)
  (fun _ _=>False) [(bS,#[.slice none 0 0],72)] ?I0 ?H0 ?R0 (fun x=>hdV x.1 x.2) 93 ?act1 ?assign ?body ?done ?stop
 case I0=>exact⟨by simp,by simp,.slice none 0 0,[],.inl ⟨rfl,rfl,rfl⟩,rfl⟩
 case H0=>exact hS.holds
 case R0 =>
  intro x hx
  have hsz:=hS.below.size
  have hBm:=J8 hm
  simp only[A4R,A5e,or_false] at hx
  rcases hx with rfl|rfl
  ·exact⟨by omega,by simp;omega⟩
  ·exact⟨by omega,by simp;omega⟩
 case assign =>
  intro l0 k x L W hI hn hIn K hK
  have hx:=ho x (P1 hn.1).2
  have s1:csz (hdV x.1 x.2)=129:=by rw[L3,hx.1]
  have s2:csz (hdV 0 (zs 128))=129:=by rw[L3,zs_len]
  have hSL:=hS
  have hS:=hIn.round
  simp only[A6Q,A6E,A6F,A6D,A6J,List.foldl_nil,A4t,A4u,A4v]
  repeat' (first|refine Zai ?_|(refine Zki ?_;clear hS;intro b w hS)|(refine Zti ?_;clear hS;intro w hS)|(refine Zci ?_ ?_<;>intro hc)|((with_reducible refine cons_in ?_);first|(refine K0 K6 own_in hS ?_ (hv:=O5 _ _);clear hS;intro w hS;refine I4 ?_))|(refine Zi ?_;first|gi_step|refine Zq ?_)|fail)
  exact hK _ _ hS
 case body =>
  rintro l0 k x L b W ⟨h1,h2,sv,Lr,hR,rfl⟩ hIn hN
  have hx:=ho x (P1 hN.1).2
  have hpo:okP k:=okP_sub ho fun y hy=>(P1 (h1 y hy)).2
  have hkl:=vpre_len h1 h2
  have s1:csz (hdV x.1 x.2)=129:=by rw[L3,hx.1]
  have s3:(hdV x.1 x.2).size=129:=by rw[←L6];exact s1
  have hSL:=hS
  replace hS:=hIn.round
  obtain⟨p,c,hp⟩:=hR.slice
  subst hp
  repeat' (first|refine Zai ?_|(refine Zki ?_;clear hS;intro b w hS)|(refine Zti ?_;clear hS;intro w hS)|(refine Zci ?_ ?_<;>intro hc)|(refine Zi ?_;first|gi_step|refine Zq ?_)|fail)
  replace hS:=own_in.perm hS (List.Perm.cons _ (List.perm_append_comm (l₁:=[_,_]) (l₂:=Lr)))
  refine A2e (f:=putC) (x0:=x) K6 own_in hS hR I2 I2 I2 I2 G7 (fun a ha=>P4 (hpo a ha).1) (P4 hx.1) A0V G0 ?_
  clear hS hR
  intro sv2 Lr2 w2 hR hS
  replace hS:=own_in.perm hS (List.perm_append_comm (l₁:=Lr2) (l₂:=[_,_]))
  simp only[A4K,A4A] at hS
  obtain⟨p2,c2,hpv2⟩:=hR.slice
  subst hpv2
  refine I4 ?_
  repeat' (first|refine Zai ?_|(refine Zki ?_;clear hS;intro b w hS)|(refine Zti ?_;clear hS;intro w hS)|(refine Zci ?_ ?_<;>intro hc)|(refine Zi ?_;first|gi_step|refine Zq ?_)|fail)
  refine⟨_,hS.tail,?_,?_,_,Lr2,hR,rfl⟩
  ·intro y hy
   rcases A5j.1 hy with hy|hy
   ·exact h1 y hy
   ·simp at hy;subst hy;exact hN.1
  ·rw[A4Q,A6q]
   exact⟨h2,by simp,fun a ha z hz=>by
    simp at hz;subst hz
    obtain⟨y,hy,rfl⟩:=A4M.1 ha
    exact hN.2 y hy⟩
 case stop=>exact fun D c' L W h=>h.elim
 case done =>
  rintro D pre L W hfin ⟨h1,h2,sv,Lr,hR,rfl⟩ hIn hD hD0
  have hDw:w0.heap.size≤D:=A4Y hS.below.size hD0
  replace hS:StD w0 D W _:=⟨hS.range hIn,hD⟩
  obtain⟨p,c,hp⟩:=hR.slice
  subst hp
  repeat' (first|refine ZaDm ?_|(refine ZkD ?_;clear hS;intro b w hS)|(refine ZtDm ?_;clear hS;intro w hS)|(refine Zc ?_ ?_<;>intro hc)|(refine Zg ?_;first|go_step|go_step3|refine Zr ?_)|fail)
  refine postMR (.inl rfl) rfl hS.2 ?_
  have hS3:=hS.shut hDw
  go_ret
  exact⟨_,pre,rfl,hR.own hS3 (fun x hx=>A4B _ hx),h1,h2,hfin,hS3.below⟩
end
section
open Go.Proofs
def sortPut_ren:Go.Shelf.Ren:=⟨fun|6=>129|15=>157|14=>156|28=>175|29=>176|20=>167|21=>168|22=>169|23=>170|24=>171|25=>172|26=>173|27=>174|46=>181|47=>182|48=>183|49=>184|50=>185|57=>186|n=>n,fun|22=>72|24=>93|25=>169|3=>3|39=>59|0=>0|53=>208|55=>163|4=>4|46=>256|45=>255|50=>260|5=>5|9=>9|66=>265|70=>269|76=>271|77=>272|n=>n,fun|n=>n⟩
theorem sortPut:Go.Proofs.SlLaysF0.n6 Tryz.prog sortPut_ren:={
 mixed:=by kernel_rfl
 f6:=⟨Tryz.f129.name,by decide,Tryz.func129.trans (congrArg some H6)⟩
 f14:=⟨Tryz.f156.name,by decide,Tryz.func156.trans (congrArg some H6)⟩
 f15:=Tryz.func157.trans (congrArg some H6)
 f20:=⟨Tryz.f167.name,by decide,Tryz.func167.trans (congrArg some H6)⟩
 f21:=⟨Tryz.f168.name,by decide,Tryz.func168.trans (congrArg some H6)⟩
 f22:=⟨Tryz.f169.name,by decide,Tryz.func169.trans (congrArg some H6)⟩
 f23:=⟨Tryz.f170.name,by decide,Tryz.func170.trans (congrArg some H6)⟩
 f24:=⟨Tryz.f171.name,by decide,Tryz.func171.trans (congrArg some H6)⟩
 f25:=⟨Tryz.f172.name,by decide,Tryz.func172.trans (congrArg some H6)⟩
 f26:=⟨Tryz.f173.name,by decide,Tryz.func173.trans (congrArg some H6)⟩
 f27:=⟨Tryz.f174.name,by decide,Tryz.func174.trans (congrArg some H6)⟩
 f28:=Tryz.func175.trans (congrArg some H6)
 f29:=Tryz.func176.trans (congrArg some H6)
 f46:=⟨Tryz.f181.name,by decide,Tryz.func181.trans (congrArg some H6)⟩
 f47:=Tryz.func182.trans (congrArg some H6)
 f48:=Tryz.func183.trans (congrArg some H6)
 f49:=⟨Tryz.f184.name,by decide,Tryz.func184.trans (congrArg some H6)⟩
 f50:=⟨Tryz.f185.name,by decide,Tryz.func185.trans (congrArg some H6)⟩
 f57:=⟨Tryz.f186.name,by decide,Tryz.func186.trans (congrArg some H6)⟩
 t0:=Tryz.underlying0
 a0:=Tryz.isAgg0
 z0:=Tryz.sizeOf0
 v0:=Tryz.zeroValue0
 t3:=Tryz.underlying3
 a3:=Tryz.isAgg3
 z3:=Tryz.sizeOf3
 v3:=Tryz.zeroValue3
 t4:=Tryz.underlying4
 a4:=Tryz.isAgg4
 z4:=Tryz.sizeOf4
 v4:=Tryz.zeroValue4
 t5:=Tryz.underlying5
 a5:=Tryz.isAgg5
 z5:=Tryz.sizeOf5
 v5:=Tryz.zeroValue5
 t9:=Tryz.underlying9
 a9:=Tryz.isAgg9
 z9:=Tryz.sizeOf9
 v9:=Tryz.zeroValue9
 t22:=Tryz.underlying72
 a22:=Tryz.isAgg72
 z22:=Tryz.sizeOf72
 v22:=Tryz.zeroValue72
 t25:=Tryz.underlying169
 a25:=Tryz.isAgg169
 z25:=Tryz.sizeOf169
 v25:=Tryz.zeroValue169
 t39:=Tryz.underlying59
 a39:=Tryz.isAgg59
 z39:=Tryz.sizeOf59
 v39:=Tryz.zeroValue59
 t45:=Tryz.underlying255
 a45:=Tryz.isAgg255
 z45:=Tryz.sizeOf255
 v45:=Tryz.zeroValue255
 t46:=Tryz.underlying256
 a46:=Tryz.isAgg256
 z46:=Tryz.sizeOf256
 v46:=Tryz.zeroValue256
 t50:=Tryz.underlying260
 a50:=Tryz.isAgg260
 z50:=Tryz.sizeOf260
 v50:=Tryz.zeroValue260
 t53:=Tryz.underlying208
 a53:=Tryz.isAgg208
 z53:=Tryz.sizeOf208
 v53:=Tryz.zeroValue208
 t55:=Tryz.underlying163
 a55:=Tryz.isAgg163
 z55:=Tryz.sizeOf163
 v55:=Tryz.zeroValue163
 t66:=Tryz.underlying265
 a66:=Tryz.isAgg265
 z66:=Tryz.sizeOf265
 v66:=Tryz.zeroValue265
 t70:=Tryz.underlying269
 a70:=Tryz.isAgg269
 z70:=Tryz.sizeOf269
 v70:=Tryz.zeroValue269
 t76:=Tryz.underlying271
 a76:=Tryz.isAgg271
 z76:=Tryz.sizeOf271
 v76:=Tryz.zeroValue271
 t77:=Tryz.underlying272
 a77:=Tryz.isAgg272
 z77:=Tryz.sizeOf272
 v77:=Tryz.zeroValue272 }
end
section
open Go.ChangeShapes Go.WideShapes Go.ChangeAt Go.RowKit
theorem flat_at{α:Type}{f:α→List Value}{n:Nat}(hn:0<n)(hf:∀a,(f a).length=n):∀{l:List α}{i:Nat}{x:Value},(l.flatMap f)[i]?=some x→∃a,l[i / n]?=some a∧(f a)[i % n]?=some x
 | [],i,x,h=>by simp at h
 | a::l,i,x,h=>by
  rw[A5E] at h
  by_cases hi:i<n
  ·rw[A4P (by rw[hf];exact hi)] at h
   exact⟨a,by rw[Nat.div_eq_of_lt hi];rfl,by rw[A6e hi];exact h⟩
  ·rw[A4V (by rw[hf];omega),hf] at h
   obtain⟨b,h1,h2⟩:=flat_at hn hf h
   have e1:i / n=(i - n) / n+1:=by
    rw[←Nat.add_div_right _ hn,Nat.sub_add_cancel H9]
   have e2:i % n=(i - n) % n:=by
    conv=>lhs;rw[←Nat.sub_add_cancel (show n≤i by omega)]
    rw[Nat.add_mod_right]
   exact⟨b,by rw[e1];simpa using h1,by rw[e2];exact h2⟩
end
section
open Go.ChangeShapes Go.WideShapes Go.ChangeAt Go.RowKit
attribute [local irreducible] wpList wpListIn
section
abbrev PutK:={x:Pt // x.2.length=128}
instance instPutK:Inhabited PutK:=⟨⟨(0,List.replicate 128 0),by simp⟩⟩
def encK(z:PutK):List Value:=putC z.1
theorem encK_len(z:PutK):(encK z).length=129:=by simp[encK,putC,z.2]
theorem encK_one(z:PutK):∀v∈encK z,v.oneCell'=true:=by
 intro v hv
 simp only[encK,putC,A4R,A4M] at hv
 rcases hv with rfl|⟨x,_,rfl⟩<;>rfl
def cfK(x y:PutK):Int:=Lib.compareInt x.1.1 y.1.1
theorem ltK(x y:PutK):Go.Proofs.ltOf cfK x y=decide (x.1.1<y.1.1):=by
 unfold Go.Proofs.ltOf cfK Lib.compareInt
 by_cases h1:x.1.1<y.1.1
 ·simp[h1]
 ·by_cases h2:y.1.1<x.1.1<;>simp[h1,h2]
theorem swoK:Go.Sort.SWO (Go.Proofs.ltOf cfK) where
 irrefl x:=by rw[ltK];simp
 trans x y z h1 h2:=by rw[ltK] at *;simp at *;omega
 ntrans x y z h1 h2:=by rw[ltK] at *;simp at *;omega
theorem isNaN_any(x:Int)(w:World):Calls Tryz.prog 131 #[.int .i64 x] w fun e w'=>e=.returned (.bool false)∧w'=w:=by
 go_enter Tryz.func131,Tryz.ntmps131
 go_wp2
 go_ret
 exact⟨by simp,rfl⟩
theorem compare_any(x y:Int)(w:World):Calls Tryz.prog 91 #[.int .i64 x,.int .i64 y] w fun e w'=>e=.returned (.int .i64 (Lib.compareInt x y))∧w'=w:=by
 go_enter Tryz.func91,Tryz.ntmps91
 go_wp2_with (go_at_call 131;refine(isNaN_any _ _).mono ?_;rintro e w' ⟨rfl,hw⟩;rw[hw])
 all_goals (go_ret;refine⟨?_,rfl⟩;unfold Lib.compareInt;(repeat' split)<;>first|rfl|(exfalso;omega))
theorem merge1_any(x y:PutK)(w:World):Calls Tryz.prog 90 #[.agg (encK x).toArray,.agg (encK y).toArray] w fun e w'=>e=.returned (.int .i64 (cfK x y))∧∃q os,w'=Go.Sort.grow (w.drewN q) os:=by
 have hcon:=fun W'=>compare_any x.1.1 y.1.1 W'
 have hx:csz (encK x).toArray=129:=by unfold csz;rw[A4X,encK_len]
 have hy:csz (encK y).toArray=129:=by unfold csz;rw[A4X,encK_len]
 have hx0:(encK x).toArray[0]?=some (.int .i64 x.1.1):=rfl
 have hy0:(encK y).toArray[0]?=some (.int .i64 y.1.1):=rfl
 unfold cfK
 generalize Lib.compareInt x.1.1 y.1.1=r at hcon ⊢
 generalize (encK x).toArray=X at *
 generalize (encK y).toArray=Y at *
 go_enter Tryz.func90,Tryz.ntmps90
 go_wp2_with fail
 refine(hcon _).mono ?_
 rintro e w' ⟨rfl,rfl⟩
 go_wp2_with fail
 go_ret
 exact⟨rfl,0,_,by rw[Go.Sort.alloc_eq_grow,Go.Sort.alloc_eq_grow,Go.Sort.grow_grow];rfl⟩
theorem cmpLaysK(b off size:Nat)(w:World):Go.Proofs.CmpLays Tryz.prog 90 #[] encK 129 cfK b off size w:=fun _ _ _ _ x y=>merge1_any x y _
theorem flatK_get{d:Array PutK}{k:Nat}{x:Value}(h:(d.toList.flatMap encK)[k]?=some x):k<d.size*129∧(Go.Sort.flatK encK 129 d)[k]! = x:=by
 obtain⟨a,h1,h2⟩:=flat_at H9 encK_len h
 have hk:k<d.size*129:=by
  have:=(A4z.1 h).1
  rwa [owl_len (fun a _=>encK_len a),A5A] at this
 refine⟨hk,?_⟩
 rw[Go.Sort.get_flatK _ _ _ _ hk]
 have h3:d[k / 129]! = a:=by
  rw[A4r] at h1
  rw[getElem!_def,h1]
 rw[h3,getElem!_def,h2]
theorem putCells_K(d:Array PutK)(l:List Pt)(sp:List Value)(hl:∀x∈l,x.2.length=128)(hn:l.length=d.size):Go.Sort.putCells id 0 (Go.Sort.flatK encK 129 d) (l.flatMap putC++sp).toArray=(d.toList.flatMap encK++sp).toArray:=by
 have hA:(l.flatMap putC).length=d.size*129:=by rw[owl_len (sz:=129) (fun a ha=>by simp[putC,hl a ha]),hn]
 have hB:(d.toList.flatMap encK).length=d.size*129:=by rw[owl_len (fun a _=>encK_len a),A5A]
 unfold Go.Sort.putCells
 refine Array.ext (by rw[Array.size_mapIdx,A4X,A4X,A4s,A4s,hA,hB]) fun k h1 h2=>?_
 rw[Array.getElem_mapIdx]
 have hz:=Go.Sort.size_flatK encK 129 d
 simp only[List.getElem_toArray]
 by_cases hk:k<d.size*129
 ·rw[if_pos ⟨Nat.zero_le _,by rw[A4G,hz];exact hk⟩,List.getElem_append_left H9]
  exact(flatK_get (A4C H9)).2
 ·rw[if_neg (by rw[A4G,hz];omega),List.getElem_append_right H9,List.getElem_append_right H9]
  congr 1
  omega
theorem sortWorld_is{w:World}{b n:Nat}{l:List Pt}{sp:List Value}{t:TypeId}(hb:blk w b=some (.cells (l.flatMap putC++sp).toArray t (0,0)))(hl:∀x∈l,x.2.length=128){d:Array PutK}(hn:l.length=d.size)(os:Array Obj) :
  Go.Proofs.sortWorldK encK 129 w b 0 n d os=grow (putRow w b ((d.toList.flatMap encK)++sp).toArray t) ⟨os,w.drawn+n⟩:=by
 have hp:=putCells_K d l sp hl hn
 have hm:w.heap.modify b (Go.Sort.onCells (Go.Sort.putCells id 0 (Go.Sort.flatK encK 129 d)))=w.heap.setIfInBounds b (.cells (d.toList.flatMap encK++sp).toArray t (0,0)):=by
  apply A5J
  intro k
  rw[A6t,Array.getElem?_setIfInBounds]
  by_cases hk:b=k
  ·subst hk
   rw[if_pos rfl,if_pos rfl]
   have h1:w.heap[b]?=some (.cells (l.flatMap putC++sp).toArray t (0,0)):=hb
   rw[h1,if_pos (A4L.1 h1).1]
   simp only[A5X,Go.Sort.onCells,hp]
  ·rw[if_neg hk,if_neg hk]
 unfold Go.Proofs.sortWorldK Go.Sort.putRowK Go.Sort.putRow Go.Sort.mapBlock Go.Sort.ahead Go.Sort.grow grow putRow
 simp only[hm]
theorem pmap_val{l:List Pt}(hl:∀x∈l,x.2.length=128):(l.pmap Subtype.mk hl).map Subtype.val=l:=by
 rw[List.map_pmap]
 simp
theorem flat_val(l:List PutK):l.flatMap encK=(l.map Subtype.val).flatMap putC:=by
 rw[List.flatMap_map]
 rfl
theorem sortFunc_any{l:List Pt}(hl:∀x∈l,x.2.length=128)(hn:l.length≤100000){b c:Nat}{sp:List Value}{t:TypeId}{w:World}(hb:blk w b=some (.cells (l.flatMap putC++sp).toArray t (0,0))) :
  Calls Tryz.prog 129 #[.slice (some ⟨b,0,none⟩) l.length c,.func (.func 90) #[] #[]] w fun e w'=>e=.returned (.tuple #[])∧∃(S:List Pt)(g:Laid),S.Perm l∧S.Pairwise (fun x y=>¬y.1<x.1)∧w'=grow (putRow w b (S.flatMap putC++sp).toArray t) g:=by
 obtain⟨d,hd⟩:∃d:Array PutK,d=(l.pmap Subtype.mk hl).toArray:=⟨_,rfl⟩
 have hdl:d.toList=l.pmap Subtype.mk hl:=by rw[hd]
 have hsz:d.size=l.length:=by rw[←A5A,hdl,List.length_pmap]
 have hfl:d.toList.flatMap encK=l.flatMap putC:=by rw[flat_val,hdl,pmap_val]
 have hH:Go.Sort.HoldsK encK 129 w b 0 d:=by
  intro j hj
  rw[Go.Sort.size_flatK] at hj
  have hlen:(d.toList.flatMap encK).length=d.size*129:=by rw[owl_len (fun a _=>encK_len a),A5A]
  have h1:=A4C (l:=d.toList.flatMap encK) (i:=j) H9
  rw[(flatK_get h1).2,A4G]
  have hb':w.heap[b]?=some (.cells (d.toList.flatMap encK++sp).toArray t (0,0)):=by rw[hfl];exact hb
  refine⟨?_,?_⟩
  ·rw[cell_of_row w b j _ t _ hb',A4y,A4P H9,h1]
   rfl
  ·exact frozen_of_row w b j _ t hb'
 have eg:∀args w,(callFunc 90 args).run Tryz.prog w=.ok (.enter 90 args) w:=enters_of Tryz.func90 H6 rfl
 have hcon:=Go.Proofs.AnyQ.slices_SortFunc sortPut 129 Tryz.isAgg93 Tryz.sizeOf93 encK encK_len encK_one cfK swoK 90 #[] b 0 c d w eg (cmpLaysK b 0 d.size w) hH (J8 hb) H9
 rw[hsz] at hcon
 refine hcon.mono ?_
 rintro e w' ⟨rfl,d',n,os,hp,hs,rfl⟩
 obtain⟨h1,-,h3⟩:=hp
 rw[hsz] at h1
 have e1:d'.extract 0 l.length=d':=by rw[←h1];exact Array.extract_size
 have e2:d.extract 0 l.length=d:=by rw[←hsz];exact Array.extract_size
 rw[e1,e2,hdl] at h3
 refine⟨rfl,d'.toList.map Subtype.val,⟨os,w.drawn+n⟩,?_,?_,?_⟩
 ·have:=h3.map Subtype.val
  rwa [pmap_val] at this
 ·rw[List.pairwise_map,List.pairwise_iff_getElem]
  intro i j hi hj hij
  have:=hs i j (Nat.zero_le _) hij (by rw[A5A] at hj;omega)
  rw[ltK] at this
  simp only[decide_eq_false_iff_not] at this
  rw[A5A] at hi hj
  rw[getElem!_pos d' j hj,getElem!_pos d' i hi] at this
  exact this
 ·rw[sortWorld_is hb hl h1.symm,flat_val]
end
section
attribute [local irreducible] putC
theorem mapValues_any(B:Nat)(w0:World)(hB:B<w0.heap.size) :
  Calls Tryz.prog 89 #[.map (some B)] w0 fun e w'=>∃Bmm t fr,e=.returned (.func (.func 130) #[] #[.pointer (some ⟨Bmm,0,none⟩)])∧blk w' Bmm=some (.cells #[.map (some B)] t fr)∧w0.heap.size≤Bmm∧Below w0.heap.size w0 w':=by
 have hS:=St.start w0
 go_enter Tryz.func89,Tryz.ntmps89
 repeat' (first|refine Zasm ?_|(refine Zks ?_;clear hS;intro b w hS)|(refine Ztsm ?_;clear hS;intro w hS)|(refine Zc ?_ ?_<;>intro hc)|(refine Zg ?_;first|go_step|go_step3|refine Zr ?_)|fail)
 go_ret
 exact⟨_,_,_,rfl,hS.blk 0 rfl,hS.low 0 rfl,hS.below⟩
theorem collect_any{rd:Value→Option (DataW Unit × List MemPlace)}(hrd:RdSpec rd)(l:List Pt)(hl:l.length≤1000)(ho:okP l)(Bmm B n:Nat)(D:DataW Unit)(w0:World){t:TypeId}{fr:Nat × Nat}(hm:blk w0 Bmm=some (.cells #[.map (some B)] t fr))(hown:MP.mapAt rd w0 B n D)(hD:MapOf l D) :
  Calls Tryz.prog 128 #[.func (.func 130) #[] #[.pointer (some ⟨Bmm,0,none⟩)]] w0 fun e w'=>∃sv pre,e=.returned sv∧OwnL putC 129 93 w0.heap.size w' sv pre∧(∀y∈pre,lastP l y.1=some y)∧(pre.map (·.1)).Nodup∧vAll l pre∧Below w0.heap.size w0 w':=by
 have hcon:=appendSeq_any hrd l hl ho Bmm B n D w0 hm hown hD
 have hS:=St.start w0
 go_enter Tryz.func128,Tryz.ntmps128
 repeat' (first|refine Zasm ?_|(refine Zks ?_;clear hS;intro b w hS)|(refine Ztsm ?_;clear hS;intro w hS)|(refine Zc ?_ ?_<;>intro hc)|(refine Zg ?_;first|go_step|go_step3|refine Zr ?_)|fail)
 refine J3 I3 I2 I2 I2 I2 I2 G7 hcon ?_
 rintro e w' ⟨sv,pre,rfl,hO,h1,h2,h3,hb⟩
 refine⟨_,rfl,?_⟩
 refine I4 ?_
 repeat' (first|refine Zasm ?_|(refine Zks ?_;clear hS;intro b w hS)|(refine Ztsm ?_;clear hS;intro w hS)|(refine Zc ?_ ?_<;>intro hc)|(refine Zg ?_;first|go_step|go_step3|refine Zr ?_)|fail)
 go_ret
 exact⟨_,pre,rfl,hO,h1,h2,h3,hb⟩
end
section
attribute [local irreducible] putC
theorem isMerge_of{l pre S:List Pt}(h1:∀y∈pre,lastP l y.1=some y)(h2:(pre.map (·.1)).Nodup)(h3:vAll l pre)(hp:S.Perm pre)(hs:S.Pairwise (fun x y=>¬y.1<x.1)):IsMerge l S:=by
 have hnd:(S.map (·.1)).Nodup:=(hp.map (·.1)).nodup_iff.2 h2
 rw[List.Nodup,List.pairwise_map] at hnd
 refine⟨(hs.and hnd).imp fun {a b} h=>by omega,fun x=>⟨fun hx=>h1 x (hp.mem_iff.1 hx),fun hx=>?_⟩⟩
 exact hp.mem_iff.2 (h3 x.1 x hx)
theorem insSort_none(p:Option Addr)(cap:Nat)(fv:Value)(w:World):Calls Tryz.prog 167 #[.slice p 0 cap,.int .i64 0,.int .i64 0,fv] w fun e w'=>e=.returned (.tuple #[])∧w'=w:=by
 go_enter Tryz.func167,Tryz.ntmps167
 go_wp2
 refine wp_loop_rounds 1 ?_
 rw[rounds_succ]
 go_wp2
 go_end0
 exact⟨rfl,rfl⟩
theorem pdq_none(p:Option Addr)(cap:Nat)(lim:Int)(fv:Value)(w:World):Calls Tryz.prog 156 #[.slice p 0 cap,.int .i64 0,.int .i64 0,.int .i64 lim,fv] w fun e w'=>e=.returned (.tuple #[])∧w'=w:=by
 go_enter Tryz.func156,Tryz.ntmps156
 go_wp2
 refine wp_loop_rounds 1 ?_
 rw[rounds_succ]
 go_wp2_with (go_at_call 167;refine(insSort_none p cap fv _).mono ?_;rintro e w' ⟨rfl,rfl⟩)
 (try simp only[Exit.inBlock,Exit.then]);refine bodyPost_ret (results_none rfl _ _ _) rfl ?_
 exact⟨rfl,rfl⟩
theorem sortFunc_none(p:Option Addr)(cap:Nat)(fv:Value)(w:World):Calls Tryz.prog 129 #[.slice p 0 cap,fv] w fun e w'=>e=.returned (.tuple #[])∧w'=w:=by
 have hl:∀W,Calls Tryz.prog 157 #[.int .u64 0] W fun e w'=>e=.returned (.int .i64 (Lib.bitLen 0:Nat))∧w'=W:=fun W=>by
  have h:=Go.Proofs.Any.bits_Len (Go.Proofs.SlLaysF0.n15.bits (P:=Tryz.prog) (ρ:=sortPut_ren) { sortPut with }) 0 W H9 H9
  exact h
 go_enter Tryz.func129,Tryz.ntmps129
 go_wp2_with (first|(go_at_call 157;refine(hl _).mono ?_;rintro e w' ⟨rfl,rfl⟩)|(go_at_call 156;refine(pdq_none _ _ _ _ _).mono ?_;rintro e w' ⟨rfl,rfl⟩))
 go_end0
 exact⟨rfl,rfl⟩
theorem sortedFunc_any{rd:Value→Option (DataW Unit × List MemPlace)}(hrd:RdSpec rd)(l:List Pt)(hl:l.length≤1000)(ho:okP l)(Bmm B n:Nat)(D:DataW Unit)(w0:World){t:TypeId}{fr:Nat × Nat}(hm:blk w0 Bmm=some (.cells #[.map (some B)] t fr))(hown:MP.mapAt rd w0 B n D)(hD:MapOf l D) :
  Calls Tryz.prog 88 #[.func (.func 130) #[] #[.pointer (some ⟨Bmm,0,none⟩)],.func (.func 90) #[] #[]] w0 fun e w'=>∃sv R,e=.returned sv∧OwnL putC 129 93 w0.heap.size w' sv R∧IsMerge l R∧Below w0.heap.size w0 w':=by
 have hcon:=collect_any hrd l hl ho Bmm B n D w0 hm hown hD
 have hS:=St.start w0
 go_enter Tryz.func88,Tryz.ntmps88
 repeat' (first|refine Zasm ?_|(refine Zks ?_;clear hS;intro b w hS)|(refine Ztsm ?_;clear hS;intro w hS)|(refine Zc ?_ ?_<;>intro hc)|(refine Zg ?_;first|go_step|go_step3|refine Zr ?_)|fail)
 refine J3 I3 I2 I2 I2 I2 I2 G7 hcon ?_
 rintro e w' ⟨sv,pre,rfl,hO,h1,h2,h3,hb⟩
 refine⟨_,rfl,?_⟩
 refine I4 ?_
 rcases hO with⟨rfl,rfl⟩|⟨g,c,sp,rfl,hc,hcm,hsp,hg,hgb⟩
 ·have hS:=(St.start w0).call hb
  repeat' (first|refine Zasm ?_|(refine Zks ?_;clear hS;intro b w hS)|(refine Ztsm ?_;clear hS;intro w hS)|(refine Zc ?_ ?_<;>intro hc)|(refine Zg ?_;first|go_step|go_step3|refine Zr ?_)|fail)
  refine J3 I3 I2 I2 I2 I2 I2 G7 (sortFunc_none _ _ _ _) ?_
  rintro e w1 ⟨rfl,rfl⟩
  refine⟨_,rfl,?_⟩
  refine I4 ?_
  repeat' (first|refine Zasm ?_|(refine Zks ?_;clear hS;intro b w hS)|(refine Ztsm ?_;clear hS;intro w hS)|(refine Zc ?_ ?_<;>intro hc)|(refine Zg ?_;first|go_step|go_step3|refine Zr ?_)|fail)
  go_ret
  exact⟨_,[],rfl,.inl ⟨rfl,rfl⟩,isMerge_of h1 h2 h3 (List.Perm.refl _) List.Pairwise.nil,hb⟩
 ·have hS:=own_st.new (St.start w0) hb hg hgb
  have hpl:∀x∈pre,x.2.length=128:=fun x hx=>(ho x (P1 (h1 x hx)).2).1
  have hpn:pre.length≤100000:=A4Y (vpre_len h1 h2) H9
  repeat' (first|refine Zasm ?_|(refine Zks ?_;clear hS;intro b w hS)|(refine Ztsm ?_;clear hS;intro w hS)|(refine Zc ?_ ?_<;>intro hc)|(refine Zg ?_;first|go_step|go_step3|refine Zr ?_)|fail)
  refine J3 I3 I2 I2 I2 I2 I2 G7 (sortFunc_any hpl hpn (hS.blk 0 rfl)) ?_
  rintro e w1 ⟨rfl,S,gg,hp,hs,rfl⟩
  refine⟨_,rfl,?_⟩
  have hlen:=hp.length_eq
  replace hS:=(hS.put 0 rfl (S.flatMap putC++sp).toArray).grow gg
  generalize grow (putRow _ g _ _) gg=w2 at hS ⊢
  refine I4 ?_
  repeat' (first|refine Zasm ?_|(refine Zks ?_;clear hS;intro b w hS)|(refine Ztsm ?_;clear hS;intro w hS)|(refine Zc ?_ ?_<;>intro hc)|(refine Zg ?_;first|go_step|go_step3|refine Zr ?_)|fail)
  go_ret
  refine⟨_,S,rfl,.inr ⟨g,c,sp,by rw[hlen];rfl,by omega,hcm,by rw[hlen];exact hsp,hg,hS.blk 0 rfl⟩,isMerge_of h1 h2 h3 hp hs,hS.below⟩
end
end
section
open Go.ChangeShapes Go.WideShapes Go.ChangeAt Go.RowKit
attribute [local irreducible] wpList wpListIn
open Go.Maps
namespace MP
attribute [local irreducible] putC
theorem merge_any(l:List Pt)(hl:l.length≤1000)(v:Value)(w0:World)(hv:PutsAt w0 v l) :
  Calls Tryz.prog 53 #[v] w0 fun e w'=>∃sv R,e=.returned sv∧OwnL putC 129 93 w0.heap.size w' sv R∧IsMerge l R∧Below w0.heap.size w0 w':=by
 obtain⟨rd,hrd⟩:=rd_exists
 obtain⟨ho,p,c,rfl,hc,hp0,hcell⟩:=hv
 have hS:=St.start w0
 obtain⟨n,hn⟩:∃n,l.length=n:=⟨_,rfl⟩
 rw[hn] at hl hc ⊢
 go_enter Tryz.func53,Tryz.ntmps53
 repeat' (first|refine Zasm ?_|(refine Zks ?_;clear hS;intro b w hS)|(refine Ztsm ?_;clear hS;intro w hS)|(refine Zc ?_ ?_<;>intro hc)|(refine Zg ?_;first|go_step|go_step3|refine Zr ?_)|fail)
 refine s_makeMap (rd:=rd) hS I2 I2 ?_
 clear hS
 intro B w hS
 refine I4 ?_
 repeat' (first|refine ZaMm ?_|(refine ZkM ?_;clear hS;intro b w hS)|(refine ZtMm ?_;clear hS;intro w hS)|(refine Zc ?_ ?_<;>intro hc)|(refine Zg ?_;first|go_step|go_step3|refine Zr ?_)|fail)
 have hm0:=Tryz.underlying164
 go_loopw [5,9] (fun u5 u9 wr=>∃(k:Nat)(D:DataW Unit),k≤n∧u9=.int .i64 (k:Int)∧MapOf (l.take k) D∧StM rd w0 B k D wr []) (fun _ u9 _=>n - (intOf u9).toNat)
 case atStart=>exact⟨0,_,by omega,rfl,mapOf_nil,hS⟩
 case round =>
  clear hS
  obtain⟨k,D,hk,rfl,hD,hS⟩:=hrel
  by_cases hlt:k<n
  ·obtain⟨⟨a,C⟩,hx⟩:∃x,l[k]?=some x:=⟨_,A4C H9⟩
   obtain⟨b,o,cs,ty,fr,rfl,hb,hcc⟩:=hcell (by intro e;rw[e] at hn;simp at hn;omega)
   obtain⟨lC,c1,c2,c3,c4⟩:=put_cells ho hcc hx
   have hr : -9223372036854775808≤a∧a≤9223372036854775807:=(ho _ (A5c hx)).2
   have htk:l.take (k+1)=l.take k++[(a,C)]:=by rw[A6g,hx];rfl
   have s1:csz (hdV a C)=129:=by rw[L3,lC]
   have s2:csz (hdV 0 (zs 128))=129:=by rw[L3,zs_len]
   have hD2:MapOf (l.take (k+1)) (D.put (.int .i64 a) (dP (a,C))):=by rw[htk];exact mapOf_snoc hD (a,C)
   repeat' (first|refine ZbMm ?_|((with_reducible refine cons_list ?_);first|((first|refine J6 I3 own_stM hS ?_ (hv:=by rw[A4r];first|exact c3|exact c2)|refine J0 I3 E9 ?_ (hv:=by first|rfl|exact bvs_getLA|(rw[A4r];first|exact c3|exact c2))|refine J5 I3 own_stM hS ?_ (hv:=by first|(first|exact c3|exact c2)|rfl)|refine I9 I3 E9 ?_ (hv:=by first|exact J1 _ _ A8|(first|exact c3|exact c2)|rfl)|refine J4 I3 ?_ (hv':=by first|exact bvs_getLA|(rw[A4r];first|exact c3|exact c2)))<;>refine I4 ?_))|(refine ZkM ?_;clear hS;intro b w hS)|(refine ZtMm ?_;clear hS;intro w hS)|(refine Zc ?_ ?_<;>intro hc)|((with_reducible refine cons_list ?_);first|(refine K0 I3 own_stM hS ?_ (hv:=O5 _ _);clear hS;intro w hS;refine I4 ?_))|(refine Zg ?_;first|go_step|go_step3|refine Zr ?_)|fail)
   refine s_update hrd hS I2 I2 hm0 H9 I2 I2 I2 (z:=(a,C)) hr ⟨lC,hr⟩ ?_
   clear hS
   intro w hS
   refine I4 ?_
   repeat' (first|refine ZaMm ?_|(refine ZkM ?_;clear hS;intro b w hS)|(refine ZtMm ?_;clear hS;intro w hS)|(refine Zc ?_ ?_<;>intro hc)|(refine Zg ?_;first|go_step|go_step3|refine Zr ?_)|fail)
   go_roundw
   case rel=>exact⟨k+1,_,by omega,by push_cast;rfl,hD2,own_stM.sub hS (fun _ h=>absurd h A5e) List.nodup_nil⟩
   case measure=>first|(simp[intOf];done)|(simp[intOf];omega)
  ·obtain rfl:k=n:=by omega
   have htl:l.take k=l:=A4E H9
   rw[htl] at hD
   repeat' (first|refine ZaMm ?_|(refine ZkM ?_;clear hS;intro b w hS)|(refine ZtMm ?_;clear hS;intro w hS)|(refine Zc ?_ ?_<;>intro hc)|(refine Zg ?_;first|go_step|go_step3|refine Zr ?_)|fail)
   refine J3 I3 I2 I2 I2 I2 I2 G7 (mapValues_any B _ (map_obj hS.2.1).1) ?_
   rintro e w1 ⟨Bmm,t,fr,rfl,hm,hlow,hb⟩
   refine⟨_,rfl,?_⟩
   replace hS:=own_stM.call hS hb
   refine I4 ?_
   repeat' (first|refine ZaMm ?_|(refine ZkM ?_;clear hS;intro b w hS)|(refine ZtMm ?_;clear hS;intro w hS)|(refine Zc ?_ ?_<;>intro hc)|(refine Zg ?_;first|go_step|go_step3|refine Zr ?_)|fail)
   refine J3 I3 I2 I2 I2 I2 I2 G7 (sortedFunc_any hrd l H9 ho Bmm B k D _ hm hS.2.1 hD) ?_
   rintro e w2 ⟨sv,R,rfl,hO,hR,hb2⟩
   refine⟨_,rfl,?_⟩
   have hsz:=hS.1.1.size
   have hBel:=hS.1.1.trans (hb2.mono hsz)
   replace hS:=own_stM.call hS hb2
   refine I4 ?_
   repeat' (first|refine ZaMm ?_|(refine ZkM ?_;clear hS;intro b w hS)|(refine ZtMm ?_;clear hS;intro w hS)|(refine Zc ?_ ?_<;>intro hc)|(refine Zg ?_;first|go_step|go_step3|refine Zr ?_)|fail)
   go_ret
   refine⟨_,R,rfl,?_,hR,hBel⟩
   rcases hO with h|⟨g,c,sp,h1,h2,h3,h4,h5,h6⟩
   ·exact .inl h
   ·exact .inr ⟨g,c,sp,h1,h2,h3,h4,A4Y hsz h5,h6⟩
end MP
end
section
open Go.ChangeShapes Go.WideShapes Go.ChangeAt Go.RowKit
attribute [local irreducible] wpList wpListIn Oper.quietAt wpM
theorem Own.mem{B:Nat}{H:World→List Blk→Prop}(hH:Own B H){w:World}{L:List Blk}{b:Nat}{cs:Array Value}{t:TypeId}(h:H w L)(hm:(b,cs,t)∈L):Go.Proofs.YtggbbafanhceaaaGreatRR.blk w b=some (.cells cs t (0,0)):=by
 obtain⟨i,hi⟩:=List.getElem?_of_mem hm
 exact hH.blk i h hi
def midC(pre:List Value)(M:List UInt8)(post:List Value):Array Value:=(pre++(M.map bv++post)).toArray
section
variable{pre post:List Value}{M l:List UInt8}{o n q:Nat}
theorem V6:csz (midC pre M post)=pre.length+M.length+post.length:=by unfold csz midC;simp[A6k]
theorem A3p(hp:0<pre.length)(hq:q=pre.length+o)(h:o+n≤M.length):cut (midC pre M post) q n=bvs (sl M o n):=by
 subst hq
 unfold cut midC
 rw[if_neg H9]
 apply Array.ext'
 unfold sl bvs
 rw[A6L,A5O,A5l]
 show ((pre++(M.map bv++post)).drop (pre.length+o)).take n=((M.drop o).take n).map bv
 rw[List.drop_length_add_append,A5o F3,A5b (by rw[A4N,A4D];omega),A6d,A6i]
theorem mid_paste(hp:0<pre.length)(hq:q=pre.length+o)(h:o+l.length≤M.length):paste (midC pre M post) q (bvs l)=midC pre (owL M o l) post:=by
 subst hq
 unfold paste
 rw[if_neg H9]
 unfold splice midC owL
 have e1:(pre++(M.map bv++post)).take (pre.length+o)=pre++(M.take o).map bv:=by
  rw[A6C,A5b F3,A6d]
 have e2:(pre++(M.map bv++post)).drop (pre.length+o+(bvs l).size)=(M.drop (o+l.length)).map bv++post:=by
  rw[A0U,A6k,List.drop_length_add_append,A5o F3,A6i]
 rw[e1,e2]
 simp[bvs]
theorem A0i(h:q<pre.length):(midC pre M post)[q]?=pre[q]?:=by unfold midC;rw[A4y,A4P h]
theorem A1x(hq:q=pre.length+M.length+o):(midC pre M post)[q]?=post[o]?:=by
 subst hq
 unfold midC
 rw[A4y,A4V H9,A4V F3,A4D]
 congr 1;omega
theorem mid_setPre(h:q<pre.length)(v:Value):(midC pre M post).setIfInBounds q v=midC (pre.set q v) M post:=by
 unfold midC
 rw[A4t,List.set_append_left _ _ h]
theorem Y5(hq:q=pre.length+M.length+o)(v:Value):(midC pre M post).setIfInBounds q v=midC pre M (post.set o v):=by
 subst hq
 unfold midC
 rw[A4t,A5U _ _ H9,A5U _ _ F3,A4D]
 congr 3
 congr 1
 omega
theorem A0N{w:World}{b c:Nat}{t:TypeId}{fr:Nat × Nat}(hb:blk w b=some (.cells (midC pre M post) t fr))(hq:q=pre.length+o)(h:o+n≤M.length)(hc:n≤c):BytesAt w (.slice (some ⟨b,q,none⟩) n c) (sl M o n):=by
 subst hq
 refine P6 hb (sl_len h) hc fun j x hj=>?_
 rw[A1G] at hj
 split at hj
 ·unfold midC
  rw[A4y,A4V H9,A4P F3,A5f,show pre.length+o+j - pre.length=o+j by omega,hj];rfl
 ·cases hj
theorem mid_ones(h1:pre.all (·.oneCell')=true)(h2:post.all (·.oneCell')=true):ones (midC pre M post)=true:=by
 unfold midC
 refine ones_lit ?_
 rw[List.all_append,List.all_append,h1,h2,List.all_map]
 simp[Value.oneCell',bv]
theorem mid_inner{p1 p2 q1 q2:List Value}(hp:0<p1.length)(hq:q=p1.length)(hn:n=p2.length+M.length+q1.length):cut (midC (p1++p2) M (q1++q2)) q n=midC p2 M q1:=by
 subst hq hn
 unfold cut
 rw[if_neg H9]
 unfold midC
 apply Array.ext'
 rw[A6L,A5O,A5l]
 show ((p1++p2++(M.map bv++(q1++q2))).drop p1.length).take _=p2++(M.map bv++q1)
 rw[A4H,A5T rfl,show p2++(M.map bv++(q1++q2))=(p2++(M.map bv++q1))++q2 by simp only[A4H],A5n (by simp[A6k])]
theorem mid_outer{p1 p2 p2' q1 q1' q2:List Value}{M':List UInt8}(hp:0<p1.length)(hq:q=p1.length)(h1:p2'.length=p2.length)(h2:M'.length=M.length)(h3:q1'.length=q1.length):paste (midC (p1++p2) M (q1++q2)) q (midC p2' M' q1')=midC (p1++p2') M' (q1'++q2):=by
 subst hq
 unfold paste
 rw[if_neg H9]
 unfold splice midC
 have e1:(p1++p2++(M.map bv++(q1++q2))).take p1.length=p1:=by rw[A4H,A5n rfl]
 have e2:(p1++p2++(M.map bv++(q1++q2))).drop (p1.length+(p2'++(M'.map bv++q1')).toArray.size)=q2:=by
  rw[show p1++p2++(M.map bv++(q1++q2))=(p1++(p2++(M.map bv++q1)))++q2 by simp only[A4H]]
  exact A5T (by simp[h1,h2,h3])
 rw[e1,e2]
 simp
end
def BytesM(L:List Blk)(v:Value)(l:List UInt8):Prop:=∃(b o c:Nat)(cs:Array Value)(ty:TypeId),v=.slice (some ⟨b,o,none⟩) l.length c∧l.length≤c∧(b,cs,ty)∈L∧∀i x,l[i]?=some x→cs[o+i]?=some (bv x)
def PutsM(L:List Blk)(v:Value)(l:List Pt):Prop:=okP l∧((v=.slice none 0 0∧l=[])∨∃(b o c:Nat)(cs:Array Value)(ty:TypeId),v=.slice (some ⟨b,o,none⟩) l.length c∧l.length≤c∧(b,cs,ty)∈L∧∀j x,(putsC l)[j]?=some x→cs[o+j]?=some x)
def CellsM(L:List Blk)(v:Value)(X:List UInt8)(k:Nat):Prop:=X.length=128*k∧∃(b o c:Nat)(cs:Array Value)(ty:TypeId),v=.slice (some ⟨b,o,none⟩) k c∧k≤c∧(b,cs,ty)∈L∧∀j x,X[j]?=some x→cs[o+j]?=some (bv x)
def TreeM(L:List Blk)(v:Value)(t:List UInt8):Prop:=t.length=1024∧∃(b c:Nat)(sp:List Value)(ty:TypeId),v=.slice (some ⟨b,0,none⟩) 32 c∧32≤c∧c≤maxLen∧(b,(t.map bv++sp).toArray,ty)∈L
section
variable{B:Nat}{H:World→List Blk→Prop}{w:World}{L L':List Blk}{v:Value}
theorem BytesM.mono{l:List UInt8}(h:BytesM L v l)(hs:∀x∈L,x∈L'):BytesM L' v l:=by obtain⟨b,o,c,cs,ty,h1,h2,h3,h4⟩:=h;exact⟨b,o,c,cs,ty,h1,h2,hs _ h3,h4⟩
theorem PutsM.mono{l:List Pt}(h:PutsM L v l)(hs:∀x∈L,x∈L'):PutsM L' v l:=⟨h.1,h.2.imp id fun ⟨b,o,c,cs,ty,h1,h2,h3,h4⟩=>⟨b,o,c,cs,ty,h1,h2,hs _ h3,h4⟩⟩
theorem TreeM.mono{t:List UInt8}(h:TreeM L v t)(hs:∀x∈L,x∈L'):TreeM L' v t:=by obtain⟨h0,b,c,sp,ty,h1,h2,h3,h4⟩:=h;exact⟨h0,b,c,sp,ty,h1,h2,h3,hs _ h4⟩
theorem BytesM.at{l:List UInt8}(h:BytesM L v l)(hH:Own B H)(hS:H w L')(hs:∀x∈L,x∈L'):BytesAt w v l:=by
 obtain⟨b,o,c,cs,ty,rfl,h2,h3,h4⟩:=h
 exact P6 (hH.mem hS (hs _ h3)) rfl h2 h4
theorem PutsM.at{l:List Pt}(h:PutsM L v l)(hH:Own B H)(hS:H w L')(hs:∀x∈L,x∈L'):PutsAt w v l:=by
 obtain⟨h0,⟨rfl,rfl⟩|⟨b,o,c,cs,ty,rfl,h2,h3,h4⟩⟩:=h
 ·exact PutsAt.nil w
 ·exact⟨h0,_,c,rfl,h2,(fun h=>by cases h),fun _=>⟨b,o,cs,ty,_,rfl,hH.mem hS (hs _ h3),h4⟩⟩
theorem CellsM.at{X:List UInt8}{k:Nat}(h:CellsM L v X k)(hH:Own B H)(hS:H w L')(hs:∀x∈L,x∈L'):CellsAt w v X k:=by
 obtain⟨h0,b,o,c,cs,ty,rfl,h2,h3,h4⟩:=h
 exact⟨h0,_,c,rfl,h2,(fun h=>by cases h),fun _=>⟨b,o,cs,ty,_,rfl,hH.mem hS (hs _ h3),h4⟩⟩
theorem TreeM.at{t:List UInt8}(h:TreeM L v t)(hH:Own B H)(hS:H w L')(hs:∀x∈L,x∈L'):TreeAt w v t:=by
 obtain⟨h0,b,c,sp,ty,rfl,h2,h3,h4⟩:=h
 exact⟨h0,b,c,sp,ty,_,rfl,h2,h3,hH.mem hS (hs _ h4)⟩
end
end
end Go.Proofs.YtggbbafanhceaaaGreatRR
