/- Laws that the claim uses. No condition of their own. -/
import Derived.Test.YtlfbfbbdpcihfaaGreatJ30
set_option maxRecDepth 100000
set_option maxHeartbeats 8000000
set_option linter.all false
namespace Go.Proofs.YtlfbfbbdpcihfaaGreat
section
open Go.ChangeShapes Go.WideShapes Go.ChangeAt Go.RowKit
attribute [local irreducible] wpList wpListIn Oper.quietAt wpM
open Go.Maps
theorem vpre_len{l pre:List Pt}(h1:∀y∈pre,lastP l y.1=some y)(h2:(pre.map (·.1)).Nodup):pre.length<=l.length:=by
 have:=nodup_le (b:=l.map (·.1)) h2 (fun a ha=>by
  obtain⟨y,hy,rfl⟩:=A3C.1 ha
  exact A3C.2 ⟨y,(K8 (h1 y hy)).2,rfl⟩)
 rwa [A3u,A3u] at this
theorem appendSeq_any{rd:Value->Option (DataW Unit × List MemPlace)}(hrd:RdSpec rd)(l:List Pt)(hl:l.length<=1000)(ho:okP l)(Bmm B n:Nat)(D:DataW Unit)(w0:World){t:TypeId}{fr:Nat × Nat}(hm:blk w0 Bmm=some (.cells #[.map (some B)] t fr))(hown:MP.mapAt rd w0 B n D)(hD:MapOf l D) :
  Calls Tryz.prog 315 #[.slice none 0 0,.func (.func 292) #[] #[.pointer (some ⟨Bmm,0,none⟩)]] w0 fun e w'=>∃sv pre,e=.returned sv/\OwnL putC 129 244 w0.heap.size w' sv pre/\(∀y∈pre,lastP l y.1=some y)/\(pre.map (·.1)).Nodup/\vAll l pre/\Below w0.heap.size w0 w':=by
 have hS:=St.start w0
 have hit:=fun W0 h1 h2=>values1_iter hrd l ho Bmm B n D W0 (t:=t) (fr:=fr) h1 h2 hD
 refine N9 Tryz.func315 rfl ?_
 simp only[Tryz.ntmps315,A3R,A3D,A3S,Nat.reduceAdd,Nat.reduceSub,A4h,A4i,A4t,A4l,A3q,A3F]
 refine Zdsm ?_;clear hS;intro _ b w hS _ _
 obtain⟨bS,hbS⟩:∃x,x=b:=⟨_,rfl⟩
 rw[<-hbS] at hS |-
 clear hbS
 have hBlt:=(MP.map_obj hown).1
 have hlow:=hS.low 0 rfl
 refine wp_range_boxL (arg:=fun x:Pt=>#[.agg (hdV x.1 x.2)]) (nxt:=vNext l) (fin:=vAll l) (R:=[Bmm,B]) (gf:=292) (lb:=#[.pointer (some ⟨Bmm,0,none⟩)]) F1 D6 (hit w0 hm hown) hS.below (fun _=>rfl)
  (fun pre L=>(∀y∈pre,lastP l y.1=some y)/\(pre.map (·.1)).Nodup/\∃sv Lr,OwL putC 129 244 pre sv Lr/\L=(bS,(#[sv]:Array Value),242)::Lr)
  (fun _ _=>False) [(bS,#[.slice none 0 0],242)] ?I0 ?H0 ?R0 (fun x=>hdV x.1 x.2) 244 ?act1 ?assign ?body ?done ?stop
 case I0=>exact⟨by simp,by simp,.slice none 0 0,[],.inl ⟨rfl,rfl,rfl⟩,rfl⟩
 case H0=>exact hS.holds
 case R0 =>
  intro x hx
  have hsz:=hS.below.size
  have hBm:=G1 hm
  simp only[A3G,A3W,or_false] at hx
  rcases hx with rfl|rfl
  ·exact⟨by omega,by simp;omega⟩
  ·exact⟨by omega,by simp;omega⟩
 case assign =>
  intro l0 k x L W hI hn hIn K hK
  have hx:=ho x (K8 hn.1).2
  have s1:csz (hdV x.1 x.2)=129:=by rw[J3,hx.1]
  have s2:csz (hdV 0 (zs 128))=129:=by rw[J3,zs_len]
  have hSL:=hS
  have hS:=hIn.round
  simp only[A5B,A5k,A5l,A5h,A5r,A5I,A3v,A3w,A3z]
  repeat' (first|(refine Zki ?_;clear hS;intro b w hS)|(refine Zli ?_;(refine I1 G0 own_in hS ?_ (hv:=N3 _ _);clear hS;intro w hS;refine F2 ?_))|(refine Zi ?_;gi_step)|fail)
  exact hK _ _ hS
 case body =>
  rintro l0 k x L b W ⟨h1,h2,sv,Lr,hR,rfl⟩ hIn hN
  have hx:=ho x (K8 hN.1).2
  have hpo:okP k:=okP_sub ho fun y hy=>(K8 (h1 y hy)).2
  have hkl:=vpre_len h1 h2
  have s1:csz (hdV x.1 x.2)=129:=by rw[J3,hx.1]
  have s3:(hdV x.1 x.2).size=129:=by rw[<-H5];exact s1
  have hSL:=hS
  replace hS:=hIn.round
  obtain⟨p,c,hp⟩:=hR.slice
  subst hp
  refine Zdi ?_;clear hS;intro _ b w hS
  replace hS:=own_in.perm hS (List.Perm.cons _ (A5c (l₁:=[_,_]) (l₂:=Lr)))
  refine A1G (f:=putC) (x0:=x) G0 own_in hS hR F1 F1 F1 F1 E5 (fun a ha=>O4 (hpo a ha).1) (O4 hx.1) A1F D9 ?_
  clear hS hR
  intro sv2 Lr2 w2 hR hS
  replace hS:=own_in.perm hS (A5c (l₁:=Lr2) (l₂:=[_,_]))
  simp only[A3F,A3q] at hS
  obtain⟨p2,c2,hpv2⟩:=hR.slice
  subst hpv2
  refine F2 ?_
  refine Zdi ?_;clear hS;intro w hS
  refine⟨_,hS.tail,?_,?_,_,Lr2,hR,rfl⟩
  ·intro y hy
   rcases A3Y.1 hy with hy|hy
   ·exact h1 y hy
   ·simp at hy;subst hy;exact hN.1
  ·rw[A3J,A5e]
   exact⟨h2,by simp,fun a ha z hz=>by
    simp at hz;subst hz
    obtain⟨y,hy,rfl⟩:=A3C.1 ha
    exact hN.2 y hy⟩
 case stop=>exact fun D c' L W h=>h.elim
 case done =>
  rintro D pre L W hfin ⟨h1,h2,sv,Lr,hR,rfl⟩ hIn hD hD0
  have hDw:w0.heap.size<=D:=A3T hS.below.size hD0
  replace hS:StD w0 D W _:=⟨hS.range hIn,hD⟩
  obtain⟨p,c,hp⟩:=hR.slice
  subst hp
  refine ZdDm ?_;show _
  refine postMR (.inl rfl) rfl hS.2 ?_
  have hS3:=hS.shut hDw
  go_ret
  exact⟨_,pre,rfl,hR.own hS3 (fun x hx=>A3l _ hx),h1,h2,hfin,hS3.below⟩
end
section
open Go.Proofs
def sortPut_ren:Go.Shelf.Ren:=⟨fun|6=>291|15=>317|14=>316|28=>333|29=>334|20=>325|21=>326|22=>327|23=>328|24=>329|25=>330|26=>331|27=>332|46=>336|47=>337|48=>338|49=>339|50=>340|57=>342|n=>n,fun|22=>242|24=>244|25=>400|3=>3|39=>116|0=>0|53=>168|55=>167|4=>4|46=>464|45=>463|50=>417|5=>5|9=>9|66=>471|70=>475|76=>478|77=>479|n=>n,fun|n=>n⟩
theorem sortPut:Go.Proofs.SlLaysF0.n6 Tryz.prog sortPut_ren:={
 mixed:=by kernel_rfl
 f6:=⟨Tryz.f291.name,by decide,Tryz.func291.trans (congrArg some E7)⟩
 f14:=⟨Tryz.f316.name,by decide,Tryz.func316.trans (congrArg some E7)⟩
 f15:=Tryz.func317.trans (congrArg some E7)
 f20:=⟨Tryz.f325.name,by decide,Tryz.func325.trans (congrArg some E7)⟩
 f21:=⟨Tryz.f326.name,by decide,Tryz.func326.trans (congrArg some E7)⟩
 f22:=⟨Tryz.f327.name,by decide,Tryz.func327.trans (congrArg some E7)⟩
 f23:=⟨Tryz.f328.name,by decide,Tryz.func328.trans (congrArg some E7)⟩
 f24:=⟨Tryz.f329.name,by decide,Tryz.func329.trans (congrArg some E7)⟩
 f25:=⟨Tryz.f330.name,by decide,Tryz.func330.trans (congrArg some E7)⟩
 f26:=⟨Tryz.f331.name,by decide,Tryz.func331.trans (congrArg some E7)⟩
 f27:=⟨Tryz.f332.name,by decide,Tryz.func332.trans (congrArg some E7)⟩
 f28:=Tryz.func333.trans (congrArg some E7)
 f29:=Tryz.func334.trans (congrArg some E7)
 f46:=⟨Tryz.f336.name,by decide,Tryz.func336.trans (congrArg some E7)⟩
 f47:=Tryz.func337.trans (congrArg some E7)
 f48:=Tryz.func338.trans (congrArg some E7)
 f49:=⟨Tryz.f339.name,by decide,Tryz.func339.trans (congrArg some E7)⟩
 f50:=⟨Tryz.f340.name,by decide,Tryz.func340.trans (congrArg some E7)⟩
 f57:=⟨Tryz.f342.name,by decide,Tryz.func342.trans (congrArg some E7)⟩
 t0:=Tryz.underlying0
 a0:=Tryz.isAgg0
 z0:=Tryz.sizeOf0
 v0:=Tryz.zeroValue0
 t3:=Tryz.underlying3
 a3:=Tryz.isAgg3
 z3:=Tryz.sizeOf3
 v3:=Tryz.zeroValue3
 t4:=Tryz.underlying4
 a4:=Tryz.isAgg4
 z4:=Tryz.sizeOf4
 v4:=Tryz.zeroValue4
 t5:=Tryz.underlying5
 a5:=Tryz.isAgg5
 z5:=Tryz.sizeOf5
 v5:=Tryz.zeroValue5
 t9:=Tryz.underlying9
 a9:=Tryz.isAgg9
 z9:=Tryz.sizeOf9
 v9:=Tryz.zeroValue9
 t22:=Tryz.underlying242
 a22:=Tryz.isAgg242
 z22:=Tryz.sizeOf242
 v22:=Tryz.zeroValue242
 t25:=Tryz.underlying400
 a25:=Tryz.isAgg400
 z25:=Tryz.sizeOf400
 v25:=Tryz.zeroValue400
 t39:=Tryz.underlying116
 a39:=Tryz.isAgg116
 z39:=Tryz.sizeOf116
 v39:=Tryz.zeroValue116
 t45:=Tryz.underlying463
 a45:=Tryz.isAgg463
 z45:=Tryz.sizeOf463
 v45:=Tryz.zeroValue463
 t46:=Tryz.underlying464
 a46:=Tryz.isAgg464
 z46:=Tryz.sizeOf464
 v46:=Tryz.zeroValue464
 t50:=Tryz.underlying417
 a50:=Tryz.isAgg417
 z50:=Tryz.sizeOf417
 v50:=Tryz.zeroValue417
 t53:=Tryz.underlying168
 a53:=Tryz.isAgg168
 z53:=Tryz.sizeOf168
 v53:=Tryz.zeroValue168
 t55:=Tryz.underlying167
 a55:=Tryz.isAgg167
 z55:=Tryz.sizeOf167
 v55:=Tryz.zeroValue167
 t66:=Tryz.underlying471
 a66:=Tryz.isAgg471
 z66:=Tryz.sizeOf471
 v66:=Tryz.zeroValue471
 t70:=Tryz.underlying475
 a70:=Tryz.isAgg475
 z70:=Tryz.sizeOf475
 v70:=Tryz.zeroValue475
 t76:=Tryz.underlying478
 a76:=Tryz.isAgg478
 z76:=Tryz.sizeOf478
 v76:=Tryz.zeroValue478
 t77:=Tryz.underlying479
 a77:=Tryz.isAgg479
 z77:=Tryz.sizeOf479
 v77:=Tryz.zeroValue479 }
end
section
open Go.ChangeShapes Go.WideShapes Go.ChangeAt Go.RowKit
theorem flat_at{α:Type}{f:α->List Value}{n:Nat}(hn:0<n)(hf:∀a,(f a).length=n):∀{l:List α}{i:Nat}{x:Value},(l.flatMap f)[i]?=some x->∃a,l[i / n]?=some a/\(f a)[i % n]?=some x
 | [],i,x,h=>by simp at h
 | a::l,i,x,h=>by
  rw[A4A] at h
  by_cases hi:i<n
  ·rw[A3E (by rw[hf];exact hi)] at h
   exact⟨a,by rw[Nat.div_eq_of_lt hi];rfl,by rw[A5A hi];exact h⟩
  ·rw[A3P (by rw[hf];omega),hf] at h
   obtain⟨b,h1,h2⟩:=flat_at hn hf h
   have e1:i / n=(i - n) / n+1:=by
    rw[<-Nat.add_div_right _ hn,Nat.sub_add_cancel E9]
   have e2:i % n=(i - n) % n:=by
    conv=>lhs;rw[<-Nat.sub_add_cancel (show n<=i by omega)]
    rw[Nat.add_mod_right]
   exact⟨b,by rw[e1];simpa using h1,by rw[e2];exact h2⟩
theorem open_gen{P:Program}{H:Type}{enc:TypeId × Value->H}{w:World}{base:Nat}{sp:Nat->Bool}{held:Bool}{t e n:Nat}{v:Value}{d:DataW H}{p:List MemPlace}{α:Type}(z:α)(f:α->List Value)
  (ht:P.underlying t=some (.slice e))(hc:P.cellsOf e=n)(hn:0<n)(hf:∀a,(f a).length=n)(hopen:∀fuel cs x,DataW.trod enc P w base sp held fuel e cs=some x->cs.length=n->∃a,cs=f a)
  (hv:∃a len cap,v=.slice a len cap)(hr:DataW.Trod enc P w base sp held t v d p) :
  ∃l:List α,(∃p c,v=.slice p l.length c/\l.length<=c/\(p=none->c=0)/\(l≠[]->∃b o cs t fr,p=some ⟨b,o,none⟩/\blk w b=some (.cells cs t fr)/\∀i x,(l.flatMap f)[i]?=some x->cs.toList[o+i]?=some x))/\l.length<=maxLen:=by
 obtain⟨a0,len0,cap0,rfl⟩:=hv
 obtain⟨fuel,hfu⟩:=hr
 rcases Go.Deep.open_slice ht hfu with⟨hcs,_⟩|⟨a,len,cap,m,n2,D,Pl,hcs,_,hlc,hcm,hm,_,hx⟩
 ·simp only[Value.cells,List.cons.injEq,Value.slice.injEq,and_true] at hcs
  obtain⟨rfl,rfl,rfl⟩:=hcs
  exact⟨[],⟨none,0,rfl,A3t _,fun _=>rfl,fun h=>absurd rfl h⟩,by simp⟩
 ·simp only[Value.cells,List.cons.injEq,Value.slice.injEq,and_true] at hcs
  obtain⟨rfl,rfl,rfl⟩:=hcs
  have hlm:len0<=m:=by rw[hm];split<;>omega
  have key:∀i,i<len0->∃x:α,∀j,j<n->w.cell? ((a.add (i*n)).add j)=(f x)[j]?:=by
   intro i hi
   obtain⟨cs',h1,h2⟩:=hx i E9
   rw[hc] at h1
   have h3:=World.cells?_some h1
   obtain⟨x,rfl⟩:=hopen _ _ _ h2 h3.2.1
   exact⟨x,h3.2.2⟩
  refine⟨(List.range len0).map fun i=>if hi:i<len0 then (key i hi).choose else z,⟨some a,cap0,by simp,by simp;omega,(fun h=>by cases h),fun hne=>?_⟩,by simp;omega⟩
  have h0:0<len0:=by
   rcases Nat.eq_zero_or_pos len0 with rfl|h
   ·exact absurd rfl hne
   ·exact h
  obtain⟨x0,hk0⟩:=key 0 h0
  have hk1:=hk0 0 hn
  rw[A4E,show a.add 0=a by simp[Addr.add],show a.add 0=a by simp[Addr.add],A3p (by rw[hf];exact hn)] at hk1
  obtain⟨b,o,cs,t2,e2,rfl,hb,_⟩:=blk_of_cell hk1
  refine⟨b,o,cs,t2,e2,rfl,hb,fun i x hi=>?_⟩
  obtain⟨q,h1,h2⟩:=flat_at hn hf hi
  have hil:i / n<len0:=by have:=(A3n.1 h1).1;simpa using this
  have hq:q=(key (i / n) hil).choose:=by
   simp[hil] at h1
   exact h1.symm
  have h3:=(key (i / n) hil).choose_spec (i % n) (Nat.mod_lt _ hn)
  rw[<-hq,h2,A0l,A0l,cell_of_row w b _ cs t2 e2 hb] at h3
  rw[A3r,<-h3]
  congr 1
  have:=Nat.div_add_mod i n
  rw[A5w] at this
  omega
end
section
open Go.ChangeShapes Go.WideShapes Go.ChangeAt Go.RowKit
attribute [local irreducible] wpList wpListIn
section
abbrev PutK:={x:Pt // x.2.length=128}
instance instPutK:Inhabited PutK:=⟨⟨(0,List.replicate 128 0),by simp⟩⟩
def encK(z:PutK):List Value:=putC z.1
theorem encK_len(z:PutK):(encK z).length=129:=by simp[encK,putC,z.2]
theorem encK_one(z:PutK):∀v∈encK z,v.oneCell'=true:=by
 intro v hv
 simp only[encK,putC,A3G,A3C] at hv
 rcases hv with rfl|⟨x,_,rfl⟩<;>rfl
def cfK(x y:PutK):Int:=Lib.compareInt x.1.1 y.1.1
theorem ltK(x y:PutK):Go.Proofs.ltOf cfK x y=decide (x.1.1<y.1.1):=by
 unfold Go.Proofs.ltOf cfK Lib.compareInt
 by_cases h1:x.1.1<y.1.1
 ·simp[h1]
 ·by_cases h2:y.1.1<x.1.1<;>simp[h1,h2]
theorem swoK:Go.Sort.SWO (Go.Proofs.ltOf cfK) where
 irrefl x:=by rw[ltK];simp
 trans x y z h1 h2:=by rw[ltK] at *;simp at *;omega
 ntrans x y z h1 h2:=by rw[ltK] at *;simp at *;omega
theorem isNaN_any(x:Int)(w:World):Calls Tryz.prog 293 #[.int .i64 x] w fun e w'=>e=.returned (.bool false)/\w'=w:=by
 go_enter Tryz.func293,Tryz.ntmps293
 go_wp2
 go_ret
 exact⟨by simp,rfl⟩
theorem compare_any(x y:Int)(w:World):Calls Tryz.prog 252 #[.int .i64 x,.int .i64 y] w fun e w'=>e=.returned (.int .i64 (Lib.compareInt x y))/\w'=w:=by
 go_enter Tryz.func252,Tryz.ntmps252
 go_wp2_with (go_at_call 293;refine(isNaN_any _ _).mono ?_;rintro e w' ⟨rfl,hw⟩;rw[hw])
 all_goals (go_ret;refine⟨?_,rfl⟩;unfold Lib.compareInt;(repeat' split)<;>first|rfl|(exfalso;omega))
theorem merge1_any(x y:PutK)(w:World):Calls Tryz.prog 251 #[.agg (encK x).toArray,.agg (encK y).toArray] w fun e w'=>e=.returned (.int .i64 (cfK x y))/\∃q os,w'=Go.Sort.grow (w.drewN q) os:=by
 have hcon:=fun W'=>compare_any x.1.1 y.1.1 W'
 have hx:csz (encK x).toArray=129:=by unfold csz;rw[A3R,encK_len]
 have hy:csz (encK y).toArray=129:=by unfold csz;rw[A3R,encK_len]
 have hx0:(encK x).toArray[0]?=some (.int .i64 x.1.1):=rfl
 have hy0:(encK y).toArray[0]?=some (.int .i64 y.1.1):=rfl
 unfold cfK
 generalize Lib.compareInt x.1.1 y.1.1=r at hcon |-
 generalize (encK x).toArray=X at *
 generalize (encK y).toArray=Y at *
 go_enter Tryz.func251,Tryz.ntmps251
 go_wp2_with fail
 refine(hcon _).mono ?_
 rintro e w' ⟨rfl,rfl⟩
 go_wp2_with fail
 go_ret
 exact⟨rfl,0,_,by rw[Go.Sort.alloc_eq_grow,Go.Sort.alloc_eq_grow,Go.Sort.grow_grow];rfl⟩
theorem cmpLaysK(b off size:Nat)(w:World):Go.Proofs.CmpLays Tryz.prog 251 #[] encK 129 cfK b off size w:=fun _ _ _ _ x y=>merge1_any x y _
theorem flatK_get{d:Array PutK}{k:Nat}{x:Value}(h:(d.toList.flatMap encK)[k]?=some x):k<d.size*129/\(Go.Sort.flatK encK 129 d)[k]! = x:=by
 obtain⟨a,h1,h2⟩:=flat_at E9 encK_len h
 have hk:k<d.size*129:=by
  have:=(A3n.1 h).1
  rwa [owl_len (fun a _=>encK_len a),A4y] at this
 refine⟨hk,?_⟩
 rw[Go.Sort.get_flatK _ _ _ _ hk]
 have h3:d[k / 129]! = a:=by
  rw[A3r] at h1
  rw[getElem!_def,h1]
 rw[h3,getElem!_def,h2]
theorem putCells_K(d:Array PutK)(l:List Pt)(sp:List Value)(hl:∀x∈l,x.2.length=128)(hn:l.length=d.size):Go.Sort.putCells id 0 (Go.Sort.flatK encK 129 d) (l.flatMap putC++sp).toArray=(d.toList.flatMap encK++sp).toArray:=by
 have hA:(l.flatMap putC).length=d.size*129:=by rw[owl_len (sz:=129) (fun a ha=>by simp[putC,hl a ha]),hn]
 have hB:(d.toList.flatMap encK).length=d.size*129:=by rw[owl_len (fun a _=>encK_len a),A4y]
 unfold Go.Sort.putCells
 refine Array.ext (by rw[Array.size_mapIdx,A3R,A3R,A3k,A3k,hA,hB]) fun k h1 h2=>?_
 rw[Array.getElem_mapIdx]
 have hz:=Go.Sort.size_flatK encK 129 d
 simp only[List.getElem_toArray]
 by_cases hk:k<d.size*129
 ·rw[if_pos ⟨Nat.zero_le _,by rw[A3x,hz];exact hk⟩,List.getElem_append_left E9]
  exact(flatK_get (A3p E9)).2
 ·rw[if_neg (by rw[A3x,hz];omega),List.getElem_append_right E9,List.getElem_append_right E9]
  congr 1
  omega
theorem sortWorld_is{w:World}{b n:Nat}{l:List Pt}{sp:List Value}{t:TypeId}(hb:blk w b=some (.cells (l.flatMap putC++sp).toArray t (0,0)))(hl:∀x∈l,x.2.length=128){d:Array PutK}(hn:l.length=d.size)(os:Array Obj) :
  Go.Proofs.sortWorldK encK 129 w b 0 n d os=grow (putRow w b ((d.toList.flatMap encK)++sp).toArray t) ⟨os,w.drawn+n⟩:=by
 have hp:=putCells_K d l sp hl hn
 have hm:w.heap.modify b (Go.Sort.onCells (Go.Sort.putCells id 0 (Go.Sort.flatK encK 129 d)))=w.heap.setIfInBounds b (.cells (d.toList.flatMap encK++sp).toArray t (0,0)):=by
  apply A4N
  intro k
  rw[Array.getElem?_modify,Array.getElem?_setIfInBounds]
  by_cases hk:b=k
  ·subst hk
   rw[if_pos rfl,if_pos rfl]
   have h1:w.heap[b]?=some (.cells (l.flatMap putC++sp).toArray t (0,0)):=hb
   rw[h1,if_pos (A3y.1 h1).1]
   simp only[A4I,Go.Sort.onCells,hp]
  ·rw[if_neg hk,if_neg hk]
 unfold Go.Proofs.sortWorldK Go.Sort.putRowK Go.Sort.putRow Go.Sort.mapBlock Go.Sort.ahead Go.Sort.grow grow putRow
 simp only[hm]
theorem pmap_val{l:List Pt}(hl:∀x∈l,x.2.length=128):(l.pmap Subtype.mk hl).map Subtype.val=l:=by
 rw[List.map_pmap]
 simp
theorem flat_val(l:List PutK):l.flatMap encK=(l.map Subtype.val).flatMap putC:=by
 rw[List.flatMap_map]
 rfl
theorem sortFunc_any{l:List Pt}(hl:∀x∈l,x.2.length=128)(hn:l.length<=100000){b c:Nat}{sp:List Value}{t:TypeId}{w:World}(hb:blk w b=some (.cells (l.flatMap putC++sp).toArray t (0,0))) :
  Calls Tryz.prog 291 #[.slice (some ⟨b,0,none⟩) l.length c,.func (.func 251) #[] #[]] w fun e w'=>e=.returned (.tuple #[])/\∃(S:List Pt)(g:Laid),S.Perm l/\S.Pairwise (fun x y=>¬y.1<x.1)/\w'=grow (putRow w b (S.flatMap putC++sp).toArray t) g:=by
 obtain⟨d,hd⟩:∃d:Array PutK,d=(l.pmap Subtype.mk hl).toArray:=⟨_,rfl⟩
 have hdl:d.toList=l.pmap Subtype.mk hl:=by rw[hd]
 have hsz:d.size=l.length:=by rw[<-A4y,hdl,List.length_pmap]
 have hfl:d.toList.flatMap encK=l.flatMap putC:=by rw[flat_val,hdl,pmap_val]
 have hH:Go.Sort.HoldsK encK 129 w b 0 d:=by
  intro j hj
  rw[Go.Sort.size_flatK] at hj
  have hlen:(d.toList.flatMap encK).length=d.size*129:=by rw[owl_len (fun a _=>encK_len a),A4y]
  have h1:=A3p (l:=d.toList.flatMap encK) (i:=j) E9
  rw[(flatK_get h1).2,A3x]
  have hb':w.heap[b]?=some (.cells (d.toList.flatMap encK++sp).toArray t (0,0)):=by rw[hfl];exact hb
  refine⟨?_,?_⟩
  ·rw[cell_of_row w b j _ t _ hb',A3o,A3E E9,h1]
   rfl
  ·exact frozen_of_row w b j _ t hb'
 have eg:∀args w,(callFunc 251 args).run Tryz.prog w=.ok (.enter 251 args) w:=enters_of Tryz.func251 E7 rfl
 have hcon:=Go.Proofs.AnyQ.slices_SortFunc sortPut 129 Tryz.isAgg244 Tryz.sizeOf244 encK encK_len encK_one cfK swoK 251 #[] b 0 c d w eg (cmpLaysK b 0 d.size w) hH (G1 hb) E9
 rw[hsz] at hcon
 refine hcon.mono ?_
 rintro e w' ⟨rfl,d',n,os,hp,hs,rfl⟩
 obtain⟨h1,-,h3⟩:=hp
 rw[hsz] at h1
 have e1:d'.extract 0 l.length=d':=by rw[<-h1];exact Array.extract_size
 have e2:d.extract 0 l.length=d:=by rw[<-hsz];exact Array.extract_size
 rw[e1,e2,hdl] at h3
 refine⟨rfl,d'.toList.map Subtype.val,⟨os,w.drawn+n⟩,?_,?_,?_⟩
 ·have:=h3.map Subtype.val
  rwa [pmap_val] at this
 ·rw[List.pairwise_map,List.pairwise_iff_getElem]
  intro i j hi hj hij
  have:=hs i j (Nat.zero_le _) hij (by rw[A4y] at hj;omega)
  rw[ltK] at this
  simp only[decide_eq_false_iff_not] at this
  rw[A4y] at hi hj
  rw[getElem!_pos d' j hj,getElem!_pos d' i hi] at this
  exact this
 ·rw[sortWorld_is hb hl h1.symm,flat_val]
end
section
attribute [local irreducible] putC
theorem mapValues_any(B:Nat)(w0:World)(hB:B<w0.heap.size) :
  Calls Tryz.prog 250 #[.map (some B)] w0 fun e w'=>∃Bmm t fr,e=.returned (.func (.func 292) #[] #[.pointer (some ⟨Bmm,0,none⟩)])/\blk w' Bmm=some (.cells #[.map (some B)] t fr)/\w0.heap.size<=Bmm/\Below w0.heap.size w0 w':=by
 have hS:=St.start w0
 go_enter Tryz.func250,Tryz.ntmps250
 refine Zdsm ?_;clear hS;intro b w hS
 go_ret
 exact⟨_,_,_,rfl,hS.blk 0 rfl,hS.low 0 rfl,hS.below⟩
theorem collect_any{rd:Value->Option (DataW Unit × List MemPlace)}(hrd:RdSpec rd)(l:List Pt)(hl:l.length<=1000)(ho:okP l)(Bmm B n:Nat)(D:DataW Unit)(w0:World){t:TypeId}{fr:Nat × Nat}(hm:blk w0 Bmm=some (.cells #[.map (some B)] t fr))(hown:MP.mapAt rd w0 B n D)(hD:MapOf l D) :
  Calls Tryz.prog 290 #[.func (.func 292) #[] #[.pointer (some ⟨Bmm,0,none⟩)]] w0 fun e w'=>∃sv pre,e=.returned sv/\OwnL putC 129 244 w0.heap.size w' sv pre/\(∀y∈pre,lastP l y.1=some y)/\(pre.map (·.1)).Nodup/\vAll l pre/\Below w0.heap.size w0 w':=by
 have hcon:=appendSeq_any hrd l hl ho Bmm B n D w0 hm hown hD
 have hS:=St.start w0
 go_enter Tryz.func290,Tryz.ntmps290
 refine Zdsm ?_;intro _ _ _
 refine F7 stp_list F1 F1 F1 F1 F1 E5 hcon ?_
 rintro e w' ⟨sv,pre,rfl,hO,h1,h2,h3,hb⟩
 refine⟨_,rfl,?_⟩
 refine F2 ?_
 refine Zdsm ?_;show _
 go_ret
 exact⟨_,pre,rfl,hO,h1,h2,h3,hb⟩
end
section
attribute [local irreducible] putC
theorem isMerge_of{l pre S:List Pt}(h1:∀y∈pre,lastP l y.1=some y)(h2:(pre.map (·.1)).Nodup)(h3:vAll l pre)(hp:S.Perm pre)(hs:S.Pairwise (fun x y=>¬y.1<x.1)):IsMerge l S:=by
 have hnd:(S.map (·.1)).Nodup:=(hp.map (·.1)).nodup_iff.2 h2
 rw[List.Nodup,List.pairwise_map] at hnd
 refine⟨(hs.and hnd).imp fun {a b} h=>by omega,fun x=>⟨fun hx=>h1 x (hp.mem_iff.1 hx),fun hx=>?_⟩⟩
 exact hp.mem_iff.2 (h3 x.1 x hx)
theorem insSort_none(p:Option Addr)(cap:Nat)(fv:Value)(w:World):Calls Tryz.prog 325 #[.slice p 0 cap,.int .i64 0,.int .i64 0,fv] w fun e w'=>e=.returned (.tuple #[])/\w'=w:=by
 go_enter Tryz.func325,Tryz.ntmps325
 go_wp2
 refine wp_loop_rounds 1 ?_
 rw[rounds_succ]
 go_wp2
 go_end0
 exact⟨rfl,rfl⟩
theorem pdq_none(p:Option Addr)(cap:Nat)(lim:Int)(fv:Value)(w:World):Calls Tryz.prog 316 #[.slice p 0 cap,.int .i64 0,.int .i64 0,.int .i64 lim,fv] w fun e w'=>e=.returned (.tuple #[])/\w'=w:=by
 go_enter Tryz.func316,Tryz.ntmps316
 go_wp2
 refine wp_loop_rounds 1 ?_
 rw[rounds_succ]
 go_wp2_with (go_at_call 325;refine(insSort_none p cap fv _).mono ?_;rintro e w' ⟨rfl,rfl⟩)
 (try simp only[Exit.inBlock,Exit.then]);refine bodyPost_ret (results_none rfl _ _ _) rfl ?_
 exact⟨rfl,rfl⟩
theorem sortFunc_none(p:Option Addr)(cap:Nat)(fv:Value)(w:World):Calls Tryz.prog 291 #[.slice p 0 cap,fv] w fun e w'=>e=.returned (.tuple #[])/\w'=w:=by
 have hl:∀W,Calls Tryz.prog 317 #[.int .u64 0] W fun e w'=>e=.returned (.int .i64 (Lib.bitLen 0:Nat))/\w'=W:=fun W=>by
  have h:=Go.Proofs.Any.bits_Len (Go.Proofs.SlLaysF0.n15.bits (P:=Tryz.prog) (ρ:=sortPut_ren) { sortPut with }) 0 W E9 E9
  exact h
 go_enter Tryz.func291,Tryz.ntmps291
 go_wp2_with (first|(go_at_call 317;refine(hl _).mono ?_;rintro e w' ⟨rfl,rfl⟩)|(go_at_call 316;refine(pdq_none _ _ _ _ _).mono ?_;rintro e w' ⟨rfl,rfl⟩))
 go_end0
 exact⟨rfl,rfl⟩
theorem sortedFunc_any{rd:Value->Option (DataW Unit × List MemPlace)}(hrd:RdSpec rd)(l:List Pt)(hl:l.length<=1000)(ho:okP l)(Bmm B n:Nat)(D:DataW Unit)(w0:World){t:TypeId}{fr:Nat × Nat}(hm:blk w0 Bmm=some (.cells #[.map (some B)] t fr))(hown:MP.mapAt rd w0 B n D)(hD:MapOf l D) :
  Calls Tryz.prog 249 #[.func (.func 292) #[] #[.pointer (some ⟨Bmm,0,none⟩)],.func (.func 251) #[] #[]] w0 fun e w'=>∃sv R,e=.returned sv/\OwnL putC 129 244 w0.heap.size w' sv R/\IsMerge l R/\Below w0.heap.size w0 w':=by
 have hcon:=collect_any hrd l hl ho Bmm B n D w0 hm hown hD
 have hS:=St.start w0
 go_enter Tryz.func249,Tryz.ntmps249
 refine Zdsm ?_;intro _ _ _
 refine F7 stp_list F1 F1 F1 F1 F1 E5 hcon ?_
 rintro e w' ⟨sv,pre,rfl,hO,h1,h2,h3,hb⟩
 refine⟨_,rfl,?_⟩
 refine F2 ?_
 rcases hO with⟨rfl,rfl⟩|⟨g,c,sp,rfl,hc,hcm,hsp,hg,hgb⟩
 ·have hS:=(St.start w0).call hb
  refine Zdsm ?_;intro _ _
  refine F7 stp_list F1 F1 F1 F1 F1 E5 (sortFunc_none _ _ _ _) ?_
  rintro e w1 ⟨rfl,rfl⟩
  refine⟨_,rfl,?_⟩
  refine F2 ?_
  refine Zdsm ?_;show _
  go_ret
  exact⟨_,[],rfl,.inl ⟨rfl,rfl⟩,isMerge_of h1 h2 h3 (List.Perm.refl _) List.Pairwise.nil,hb⟩
 ·have hS:=own_st.new (St.start w0) hb hg hgb
  have hpl:∀x∈pre,x.2.length=128:=fun x hx=>(ho x (K8 (h1 x hx)).2).1
  have hpn:pre.length<=100000:=A3T (vpre_len h1 h2) E9
  refine Zdsm ?_;intro _ _
  refine F7 stp_list F1 F1 F1 F1 F1 E5 (sortFunc_any hpl hpn (hS.blk 0 rfl)) ?_
  rintro e w1 ⟨rfl,S,gg,hp,hs,rfl⟩
  refine⟨_,rfl,?_⟩
  have hlen:=hp.length_eq
  replace hS:=(hS.put 0 rfl (S.flatMap putC++sp).toArray).grow gg
  generalize grow (putRow _ g _ _) gg=w2 at hS |-
  refine F2 ?_
  refine Zdsm ?_;show _
  go_ret
  refine⟨_,S,rfl,.inr ⟨g,c,sp,by rw[hlen];rfl,by omega,hcm,by rw[hlen];exact hsp,hg,hS.blk 0 rfl⟩,isMerge_of h1 h2 h3 hp hs,hS.below⟩
end
end
section
open Go.ChangeShapes Go.WideShapes Go.ChangeAt Go.RowKit
attribute [local irreducible] wpList wpListIn
open Go.Maps
namespace MP
attribute [local irreducible] putC
theorem merge_any(l:List Pt)(hl:l.length<=1000)(v:Value)(w0:World)(hv:PutsAt w0 v l) :
  Calls Tryz.prog 202 #[v] w0 fun e w'=>∃sv R,e=.returned sv/\OwnL putC 129 244 w0.heap.size w' sv R/\IsMerge l R/\Below w0.heap.size w0 w':=by
 obtain⟨rd,hrd⟩:=rd_exists
 obtain⟨ho,p,c,rfl,hc,hp0,hcell⟩:=hv
 have hS:=St.start w0
 obtain⟨n,hn⟩:∃n,l.length=n:=⟨_,rfl⟩
 rw[hn] at hl hc |-
 go_enter Tryz.func202,Tryz.ntmps202
 refine Zdsm ?_;intro _ _ _
 refine s_makeMap (rd:=rd) hS F1 F1 ?_
 clear hS
 intro B w hS
 refine F2 ?_
 refine ZdMm ?_;intro _ _
 have hm0:=Tryz.underlying395
 go_loopw [5,9] (fun u5 u9 wr=>∃(k:Nat)(D:DataW Unit),k<=n/\u9=.int .i64 (k:Int)/\MapOf (l.take k) D/\StM rd w0 B k D wr []) (fun _ u9 _=>n - (intOf u9).toNat)
 case atStart=>exact⟨0,_,by omega,rfl,mapOf_nil,hS⟩
 case round =>
  clear hS
  obtain⟨k,D,hk,rfl,hD,hS⟩:=hrel
  by_cases hlt:k<n
  ·obtain⟨⟨a,C⟩,hx⟩:∃x,l[k]?=some x:=⟨_,A3p E9⟩
   obtain⟨b,o,cs,ty,fr,rfl,hb,hcc⟩:=hcell (by intro e;rw[e] at hn;simp at hn;omega)
   obtain⟨lC,c1,c2,c3,c4⟩:=put_cells ho hcc hx
   have hr : -9223372036854775808<=a/\a<=9223372036854775807:=(ho _ (A4d hx)).2
   have htk:l.take (k+1)=l.take k++[(a,C)]:=by rw[A5f,hx];rfl
   have s1:csz (hdV a C)=129:=by rw[J3,lC]
   have s2:csz (hdV 0 (zs 128))=129:=by rw[J3,zs_len]
   have hD2:MapOf (l.take (k+1)) (D.put (.int .i64 a) (dP (a,C))):=by rw[htk];exact mapOf_snoc hD (a,C)
   repeat' (first|refine ZbMm ?_|(refine Zll ?_;((refine K3 stp_list (by exact((hS).far hb).1) ?_ (hv:=by(exact c2)))<;>refine F2 ?_))|(refine ZkM ?_;clear hS;intro b w hS)|(refine Zll ?_;(refine I1 stp_list own_stM hS ?_ (hv:=N3 _ _);clear hS;intro w hS;refine F2 ?_))|(refine Zg ?_;go_step)|fail)
   refine s_update hrd hS F1 F1 hm0 E9 F1 F1 F1 (z:=(a,C)) hr ⟨lC,hr⟩ ?_
   clear hS
   intro w hS
   refine F2 ?_
   refine ZdMm ?_;show _
   go_roundw
   case rel=>exact⟨k+1,_,by omega,by push_cast;rfl,hD2,own_stM.sub hS (fun _ h=>absurd h A3W) List.nodup_nil⟩
   case measure=>(simp[intOf];omega)
  ·obtain rfl:k=n:=by omega
   have htl:l.take k=l:=A3B E9
   rw[htl] at hD
   refine ZdMm ?_;intro _ _ _ _ _
   refine F7 stp_list F1 F1 F1 F1 F1 E5 (mapValues_any B _ (map_obj hS.2.1).1) ?_
   rintro e w1 ⟨Bmm,t,fr,rfl,hm,hlow,hb⟩
   refine⟨_,rfl,?_⟩
   replace hS:=own_stM.call hS hb
   refine F2 ?_
   refine ZdMm ?_;show _
   refine F7 stp_list F1 F1 F1 F1 F1 E5 (sortedFunc_any hrd l E9 ho Bmm B k D _ hm hS.2.1 hD) ?_
   rintro e w2 ⟨sv,R,rfl,hO,hR,hb2⟩
   refine⟨_,rfl,?_⟩
   have hsz:=hS.1.1.size
   have hBel:=hS.1.1.trans (hb2.mono hsz)
   replace hS:=own_stM.call hS hb2
   refine F2 ?_
   refine ZdMm ?_;show _
   go_ret
   refine⟨_,R,rfl,?_,hR,hBel⟩
   rcases hO with h|⟨g,c,sp,h1,h2,h3,h4,h5,h6⟩
   ·exact .inl h
   ·exact .inr ⟨g,c,sp,h1,h2,h3,h4,A3T hsz h5,h6⟩
end MP
end
section
open Go.ChangeShapes Go.WideShapes Go.ChangeAt Go.RowKit
attribute [local irreducible] wpList wpListIn Oper.quietAt wpM
theorem Own.mem{B:Nat}{H:World->List Blk->Prop}(hH:Own B H){w:World}{L:List Blk}{b:Nat}{cs:Array Value}{t:TypeId}(h:H w L)(hm:(b,cs,t)∈L):Go.Proofs.YtlfbfbbdpcihfaaGreat.blk w b=some (.cells cs t (0,0)):=by
 obtain⟨i,hi⟩:=A5m hm
 exact hH.blk i h hi
def midC(pre:List Value)(M:List UInt8)(post:List Value):Array Value:=(pre++(M.map bv++post)).toArray
section
variable{pre post:List Value}{M l:List UInt8}{o n q:Nat}
theorem S7:csz (midC pre M post)=pre.length+M.length+post.length:=by unfold csz midC;simp[A4K]
theorem mid_cut(hp:0<pre.length)(hq:q=pre.length+o)(h:o+n<=M.length):cut (midC pre M post) q n=bvs (sl M o n):=by
 subst hq
 unfold cut midC
 rw[if_neg E9]
 apply Array.ext'
 unfold sl bvs
 rw[A5L,A4T,A4e]
 show ((pre++(M.map bv++post)).drop (pre.length+o)).take n=((M.drop o).take n).map bv
 rw[List.drop_length_add_append,A4H D2,A4q (by rw[A3H,A3u];omega),A5g,A5a]
theorem A1L(hp:0<pre.length)(hq:q=pre.length+o)(h:o+l.length<=M.length):paste (midC pre M post) q (bvs l)=midC pre (owL M o l) post:=by
 subst hq
 unfold paste
 rw[if_neg E9]
 unfold splice midC owL
 have e1:(pre++(M.map bv++post)).take (pre.length+o)=pre++(M.take o).map bv:=by
  rw[A5D,A4q D2,A5g]
 have e2:(pre++(M.map bv++post)).drop (pre.length+o+(bvs l).size)=(M.drop (o+l.length)).map bv++post:=by
  rw[A1l,A4K,List.drop_length_add_append,A4H D2,A5a]
 rw[e1,e2]
 simp[bvs]
theorem X7(h:q<pre.length):(midC pre M post)[q]?=pre[q]?:=by unfold midC;rw[A3o,A3E h]
theorem A0D(hq:q=pre.length+M.length+o):(midC pre M post)[q]?=post[o]?:=by
 subst hq
 unfold midC
 rw[A3o,A3P E9,A3P D2,A3u]
 congr 1;omega
theorem A0U(h:q<pre.length)(v:Value):(midC pre M post).setIfInBounds q v=midC (pre.set q v) M post:=by
 unfold midC
 rw[A3v,List.set_append_left _ _ h]
theorem A0q(hq:q=pre.length+M.length+o)(v:Value):(midC pre M post).setIfInBounds q v=midC pre M (post.set o v):=by
 subst hq
 unfold midC
 rw[A3v,A4Q _ _ E9,A4Q _ _ D2,A3u]
 congr 3
 congr 1
 omega
theorem A1T{w:World}{b c:Nat}{t:TypeId}{fr:Nat × Nat}(hb:blk w b=some (.cells (midC pre M post) t fr))(hq:q=pre.length+o)(h:o+n<=M.length)(hc:n<=c):BytesAt w (.slice (some ⟨b,q,none⟩) n c) (sl M o n):=by
 subst hq
 refine L5 hb (sl_len h) hc fun j x hj=>?_
 rw[A0w] at hj
 split at hj
 ·unfold midC
  rw[A3o,A3P E9,A3E D2,A3N,show pre.length+o+j - pre.length=o+j by omega,hj];rfl
 ·cases hj
theorem mid_ones(h1:pre.all (·.oneCell')=true)(h2:post.all (·.oneCell')=true):ones (midC pre M post)=true:=by
 unfold midC
 refine ones_lit ?_
 rw[List.all_append,List.all_append,h1,h2,List.all_map]
 simp[Value.oneCell',bv]
theorem mid_inner{p1 p2 q1 q2:List Value}(hp:0<p1.length)(hq:q=p1.length)(hn:n=p2.length+M.length+q1.length):cut (midC (p1++p2) M (q1++q2)) q n=midC p2 M q1:=by
 subst hq hn
 unfold cut
 rw[if_neg E9]
 unfold midC
 apply Array.ext'
 rw[A5L,A4T,A4e]
 show ((p1++p2++(M.map bv++(q1++q2))).drop p1.length).take _=p2++(M.map bv++q1)
 rw[A3K,A5s rfl,show p2++(M.map bv++(q1++q2))=(p2++(M.map bv++q1))++q2 by simp only[A3K],A4x (by simp[A4K])]
theorem mid_outer{p1 p2 p2' q1 q1' q2:List Value}{M':List UInt8}(hp:0<p1.length)(hq:q=p1.length)(h1:p2'.length=p2.length)(h2:M'.length=M.length)(h3:q1'.length=q1.length):paste (midC (p1++p2) M (q1++q2)) q (midC p2' M' q1')=midC (p1++p2') M' (q1'++q2):=by
 subst hq
 unfold paste
 rw[if_neg E9]
 unfold splice midC
 have e1:(p1++p2++(M.map bv++(q1++q2))).take p1.length=p1:=by rw[A3K,A4x rfl]
 have e2:(p1++p2++(M.map bv++(q1++q2))).drop (p1.length+(p2'++(M'.map bv++q1')).toArray.size)=q2:=by
  rw[show p1++p2++(M.map bv++(q1++q2))=(p1++(p2++(M.map bv++q1)))++q2 by simp only[A3K]]
  exact A5s (by simp[h1,h2,h3])
 rw[e1,e2]
 simp
end
def BytesM(L:List Blk)(v:Value)(l:List UInt8):Prop:=∃(b o c:Nat)(cs:Array Value)(ty:TypeId),v=.slice (some ⟨b,o,none⟩) l.length c/\l.length<=c/\(b,cs,ty)∈L/\∀i x,l[i]?=some x->cs[o+i]?=some (bv x)
def PutsM(L:List Blk)(v:Value)(l:List Pt):Prop:=okP l/\((v=.slice none 0 0/\l=[])\/∃(b o c:Nat)(cs:Array Value)(ty:TypeId),v=.slice (some ⟨b,o,none⟩) l.length c/\l.length<=c/\(b,cs,ty)∈L/\∀j x,(putsC l)[j]?=some x->cs[o+j]?=some x)
def CellsM(L:List Blk)(v:Value)(X:List UInt8)(k:Nat):Prop:=X.length=128*k/\∃(b o c:Nat)(cs:Array Value)(ty:TypeId),v=.slice (some ⟨b,o,none⟩) k c/\k<=c/\(b,cs,ty)∈L/\∀j x,X[j]?=some x->cs[o+j]?=some (bv x)
def TreeM(L:List Blk)(v:Value)(t:List UInt8):Prop:=t.length=1024/\∃(b c:Nat)(sp:List Value)(ty:TypeId),v=.slice (some ⟨b,0,none⟩) 32 c/\32<=c/\c<=maxLen/\(b,(t.map bv++sp).toArray,ty)∈L
section
variable{B:Nat}{H:World->List Blk->Prop}{w:World}{L L':List Blk}{v:Value}
theorem BytesM.mono{l:List UInt8}(h:BytesM L v l)(hs:∀x∈L,x∈L'):BytesM L' v l:=by obtain⟨b,o,c,cs,ty,h1,h2,h3,h4⟩:=h;exact⟨b,o,c,cs,ty,h1,h2,hs _ h3,h4⟩
theorem PutsM.mono{l:List Pt}(h:PutsM L v l)(hs:∀x∈L,x∈L'):PutsM L' v l:=⟨h.1,h.2.imp id fun ⟨b,o,c,cs,ty,h1,h2,h3,h4⟩=>⟨b,o,c,cs,ty,h1,h2,hs _ h3,h4⟩⟩
theorem TreeM.mono{t:List UInt8}(h:TreeM L v t)(hs:∀x∈L,x∈L'):TreeM L' v t:=by obtain⟨h0,b,c,sp,ty,h1,h2,h3,h4⟩:=h;exact⟨h0,b,c,sp,ty,h1,h2,h3,hs _ h4⟩
theorem BytesM.at{l:List UInt8}(h:BytesM L v l)(hH:Own B H)(hS:H w L')(hs:∀x∈L,x∈L'):BytesAt w v l:=by
 obtain⟨b,o,c,cs,ty,rfl,h2,h3,h4⟩:=h
 exact L5 (hH.mem hS (hs _ h3)) rfl h2 h4
theorem PutsM.at{l:List Pt}(h:PutsM L v l)(hH:Own B H)(hS:H w L')(hs:∀x∈L,x∈L'):PutsAt w v l:=by
 obtain⟨h0,⟨rfl,rfl⟩|⟨b,o,c,cs,ty,rfl,h2,h3,h4⟩⟩:=h
 ·exact PutsAt.nil w
 ·exact⟨h0,_,c,rfl,h2,(fun h=>by cases h),fun _=>⟨b,o,cs,ty,_,rfl,hH.mem hS (hs _ h3),h4⟩⟩
theorem CellsM.at{X:List UInt8}{k:Nat}(h:CellsM L v X k)(hH:Own B H)(hS:H w L')(hs:∀x∈L,x∈L'):CellsAt w v X k:=by
 obtain⟨h0,b,o,c,cs,ty,rfl,h2,h3,h4⟩:=h
 exact⟨h0,_,c,rfl,h2,(fun h=>by cases h),fun _=>⟨b,o,cs,ty,_,rfl,hH.mem hS (hs _ h3),h4⟩⟩
theorem TreeM.at{t:List UInt8}(h:TreeM L v t)(hH:Own B H)(hS:H w L')(hs:∀x∈L,x∈L'):TreeAt w v t:=by
 obtain⟨h0,b,c,sp,ty,rfl,h2,h3,h4⟩:=h
 exact⟨h0,b,c,sp,ty,_,rfl,h2,h3,hH.mem hS (hs _ h4)⟩
end
end
end Go.Proofs.YtlfbfbbdpcihfaaGreat
