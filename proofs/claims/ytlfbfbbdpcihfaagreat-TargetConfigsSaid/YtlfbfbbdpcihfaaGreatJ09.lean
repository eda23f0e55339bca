/- Laws that the claim uses. No condition of their own. -/
import Derived.Test.YtlfbfbbdpcihfaaGreatJ08
set_option maxRecDepth 100000
set_option maxHeartbeats 8000000
set_option linter.all false
namespace Go.Proofs.YtlfbfbbdpcihfaaGreat
section
open Go.ChangeShapes Go.WideShapes Go.ChangeAt Go.RowKit
attribute [local irreducible] wpList wpListIn
theorem A1Y(v:Value)(l:List UInt8)(hne:l≠[])(hm:l.length<=1000000000)(w:World)(hv:BytesAt w v l) :
  Calls Tryz.prog 22 #[v] w fun e w'=>∃g c sp,e=.returned (.slice (some ⟨g,0,none⟩) l.length c)/\(l.length<=c/\c<=maxLen)/\w.heap.size<=g/\blk w' g=some (.cells (l.map bv++sp).toArray 5 (0,0))/\Below w.heap.size w w':=by
 obtain⟨p,c,rfl,hc,hp0,hcell⟩:=id hv
 obtain⟨tb,ti,cs,ty,fr,rfl,htb,hx⟩:=hcell hne
 have hS:=St.start w
 go_enter Tryz.func22,Tryz.ntmps22
 refine Zds ?_;clear hS;intro _ _ _ _ b w hS
 refine J9 stp_list own_st hS F1 F1 F1 F1 E5 E3 (olds:=[]) (spare:=[]) F1 F1 E9 F1 (hv.below hS.below).srcs D0 (R9 l) D9 A4 ?_
 clear hS
 intro b' c' sp w' h1 h2 h3 hS
 refine F2 ?_
 refine Zds ?_;show _
 go_ret
 exact⟨b',c',sp,rfl,⟨by omega,h2⟩,(hS.2.1 _ (A3m ..)).1,hS.blk 0 rfl,hS.below⟩
theorem grow_none(n:Nat)(hn:0<n)(hm:n<=1000000000)(w:World) :
  Calls Tryz.prog 184 #[.slice none 0 0,.int .i64 (n:Int)] w fun e w'=>∃g c,e=.returned (.slice (some ⟨g,0,none⟩) 0 c)/\n<=c/\c<=maxLen/\w.heap.size<=g/\blk w' g=some (.cells (bvs (zs c)) 5 (0,0))/\Below w.heap.size w w':=by
 have hS:=St.start w
 go_enter Tryz.func184,Tryz.ntmps184
 refine Zds ?_;intro _ _ _
 refine A2d stp_list own_st hS F1 F1 F1 F1 E5 E5 (by exact Tryz.underlying3) ⟨hn,hm⟩ ?_
 clear hS
 intro b' c' w' h1 h2 hS
 refine F2 ?_
 refine Zds ?_;show _
 go_ret
 exact⟨b',c',rfl,h1,h2,(hS.2.1 _ (A3m ..)).1,hS.blk 0 rfl,hS.below⟩
theorem concat_x(v1 v2:Value)(l1 l2:List UInt8)(hne1:l1≠[])(hne2:l2≠[])(hm:l1.length+l2.length<=1000000000)(bb:Nat)(fr:Nat × Nat)(w:World)(hv1:BytesAt w v1 l1)(hv2:BytesAt w v2 l2)(hbb:blk w bb=some (.cells #[v1,v2] 23 fr)) :
  Calls Tryz.prog 122 #[.slice (some ⟨bb,0,none⟩) 2 2] w fun e w'=>∃g c sp,e=.returned (.slice (some ⟨g,0,none⟩) (l1.length+l2.length) c)/\(l1.length+l2.length<=c/\c<=maxLen/\sp.length=c - (l1.length+l2.length))/\w.heap.size<=g/\blk w' g=some (.cells ((l1++l2).map bv++sp).toArray 5 (0,0))/\Below w.heap.size w w':=by
 obtain⟨p1,c1,rfl,hc1,hp1,hcell1⟩:=id hv1
 obtain⟨tb1,ti1,cs1,ty1,fr1,rfl,htb1,hx1⟩:=hcell1 hne1
 obtain⟨p2,c2,rfl,hc2,hp2,hcell2⟩:=id hv2
 obtain⟨tb2,ti2,cs2,ty2,fr2,rfl,htb2,hx2⟩:=hcell2 hne2
 have n1:=A5o.2 hne1
 have n2:=A5o.2 hne2
 have hS:=St.start w
 go_enter Tryz.func122,Tryz.ntmps122
 refine Zys ?_;intro _ _ _
 refine wp_loop_rounds 3 ?_
 rw[rounds_succ]
 refine Zys ?_;show _
 rw[rounds_succ]
 repeat' (first|refine Zas ?_|(refine Zll ?_;((refine G3 stp_list (by exact((hS).far hbb).1) ?_)<;>refine F2 ?_))|(refine Zg ?_;go_step)|fail)
 rw[rounds_succ]
 refine Zys ?_;intro _ _ _ _
 refine F7 stp_list F1 F1 F1 F1 F1 E5 (grow_none (l1.length+l2.length) E9 hm _) ?_
 rintro e w' ⟨g,c,rfl,hg1,hg2,hg,hgb,hgB⟩
 refine⟨_,rfl,?_⟩
 refine F2 ?_
 replace hS:=own_st.new hS hgB hg hgb
 refine Zys ?_;intro _ _
 refine wp_loop_rounds 3 ?_
 rw[rounds_succ]
 repeat' (first|refine Zas ?_|(refine Zll ?_;((refine G3 stp_list (by exact((hS).far hbb).1) ?_)<;>refine F2 ?_))|(refine Zg ?_;go_step)|fail)
 refine J9 stp_list own_st hS F1 F1 F1 F1 E5 E3 (olds:=[]) (spare:=(zs c).map bv) F1 F1 E9 (by rw[A3u,zs_len,A4j,A4D]) (hv1.below hS.below).srcs D0 (R9 l1) (by unfold maxLen at hg2 |-;omega) A4 ?_
 clear hS
 intro b1 d1 sp1 w1 h1 h2 h3 hS
 refine F2 ?_
 repeat' (first|refine Zas ?_|(refine Zg ?_;go_step)|fail)
 rw[rounds_succ]
 repeat' (first|refine Zas ?_|(refine Zll ?_;((refine G3 stp_list (by exact((hS).far hbb).1) ?_)<;>refine F2 ?_))|(refine Zg ?_;go_step)|fail)
 refine J9 stp_list own_st hS F1 F1 F1 F1 E5 E3 (olds:=l1.map bv) (spare:=sp1) F1 D2 E9 (by rw[h3]) (hv2.below hS.below).srcs D0 (R9 l2) (by unfold maxLen at h2 |-;omega) A4 ?_
 clear hS
 intro b2 d2 sp2 w2 k1 k2 k3 hS
 refine F2 ?_
 repeat' (first|refine Zas ?_|(refine Zg ?_;go_step)|fail)
 rw[rounds_succ]
 repeat' (first|refine Zas ?_|(refine Zg ?_;go_step)|fail)
 go_ret
 refine⟨b2,d2,sp2,rfl,⟨by omega,k2,by omega⟩,(hS.2.1 _ (A3m ..)).1,?_,hS.below⟩
 rw[A3J]
 exact hS.blk 0 rfl
end
section
open Go.ChangeShapes Go.WideShapes Go.ChangeAt Go.RowKit
end
section
open Go.ChangeShapes Go.WideShapes Go.ChangeAt Go.RowKit
attribute [local irreducible] wpList wpListIn
section
variable{P:Program}{ops:Array Oper}{W:List Oper->Act->World->Prop}{o:Oper}{rest:List Oper}{a:Act}{w:World}{v:Value}{B:Nat}{H:World->List Blk->Prop}{L:List Blk}
theorem s_appendR{x y:Operand}{t e size bytes b n c m c2 i nm:Nat}{q:Addr}{cs:Array Value}{olds spare xs:List Value}(hs:Stp P ops W)(hH:Own B H)(hS:H w L)(hw:Region.wanted o (yielded ops a.tmps)=true)
  (hop:o.op=.call { callee:=.builtin .append,args:=#[x,y],argTypes:=#[t,t] })(hx:evO a x=some (.slice (some ⟨b,0,none⟩) n c))(hy:evO a y=some (.slice (some q) m c2))(hT:SlT P t e size bytes)
  (hi:L[i]?=some (b,cs,e))(hcs:cs.toList=olds++spare)(ho:olds.length=n*size)(hsp:spare.length=(c - n)*size)(hsrc:∀j v,xs[j]?=some v->w.cell? (q.add j)=some v)(hxs:xs.length=m*size)(hone:∀v∈xs,v.oneCell'=true)
  (hroom:n+m<=c)(hnm:n+m=nm)
  (hk:∀w',H w' (L.set i (b,(olds++xs++spare.drop xs.length).toArray,e))->W rest (a.put o.dst (.slice (some ⟨b,0,none⟩) nm c)) w'):W (o::rest) a w:=by
 subst hnm
 obtain⟨ht,inf,z,hie,hz,hsz,hby,hzs,hpos⟩:=elemB_iff hT.is
 have hd:isDefer o=false:=by unfold isDefer;rw[hop]
 have hb:=hH.blk i hS hi
 have hcsz:cs.size=olds.length+spare.length:=by rw[<-A4y,hcs,A3k]
 have hfit:n*inf.size+xs.length<=cs.size:=by
  rw[hcsz,hsz,ho,hsp,hxs]
  have:m*size<=(c - n)*size:=Nat.mul_le_mul_right _ E9
  omega
 have hr:=run_append_room (P:=P) w t o.type e inf ht hie b n c cs hb q m c2 xs (by rw[hsz];exact hxs) hsrc hone hroom hfit
 refine hs.go hw hd (A0T hop hx hy hr) ?_
 have hrow:(cs.toList.take (n*inf.size)++xs++cs.toList.drop (n*inf.size+xs.length)).toArray=(olds++xs++spare.drop xs.length).toArray:=by
  rw[hcs,hsz,<-ho,List.take_left,A4U,A4e,A3M E9,A3q]
 rw[hrow]
 exact hk _ (hH.setRow i (olds++xs++spare.drop xs.length).toArray hS hi)
theorem r_appendN{x y:Operand}{t e size bytes n c:Nat}{p:Addr}(hop:o.op=.call { callee:=.builtin .append,args:=#[x,y],argTypes:=#[t,t] })(hx:evO a x=some (.slice (some p) n c))(hy:evO a y=some (.slice none 0 0))(hT:SlT P t e size bytes)(hnc:n<=c):(execOp a.eval o).run P w=.ok (.value (.slice (some p) n c)) w:=by
 obtain⟨ht,inf,z,hie,hz,hsz,hby,hzs,hpos⟩:=elemB_iff hT.is
 exact A0T hop hx hy (by simp[Builtin.append_,run_underlying ht,sizeOf,typeInfo,hie,Builtin.lenOf,Builtin.firstCells,hnc,storeCells])
end
def pb(k j:Nat):UInt8:=UInt8.ofNat (29*k+5*j+3)
attribute [irreducible] pb
end
section
open Go.RowKit
attribute [local irreducible] wpList wpListIn
def stT(P:Program)(t:TypeId):Option (List (Nat × Nat) × Array Value):=match P.info? t,P.underlying t with
 | some it,some (.struct fields)=>(match it.zero,fields.toList.mapM (fun f=>(P.info? f.type).map fun i=>(f.offset,i.size)) with
  | some z,some places=>some (places,z.cells)
  | _,_=>none)
 | _,_=>none
class StT(P:Program)(t:TypeId)(pl:outParam (List (Nat × Nat)))(z:outParam (List Value)):Prop where
 is:stT P t=some (pl,z.toArray)
def atT(P:Program)(t:TypeId):Option (Nat × Array Value):=match P.info? t,P.underlying t with
 | some it,some (.array _ e)=>(match it.zero,P.info? e with
  | some z,some ie=>some (ie.size,z.cells)
  | _,_=>none)
 | _,_=>none
class AtT(P:Program)(t:TypeId)(n:outParam Nat)(z:outParam (List Value)):Prop where
 is:atT P t=some (n,z.toArray)
def evp(a:Act):List (Nat × Operand)->Option (List (Nat × Value))
 | []=>some []
 | (i,x)::l=>match evO a x,evp a l with
  | some v,some vs=>some ((i,v)::vs)
  | _,_=>none
theorem evp_eval{a:Act}:∀{l:List (Nat × Operand)}{vs:List (Nat × Value)},evp a l=some vs->l.map (fun y=>(y.1,a.eval y.2))=vs
 | [],vs,h=>by simp only[evp,Option.some.injEq] at h;exact h
 | (i,x)::l,vs,h=>by
  simp only[evp] at h
  split at h
  ·rename_i v vs' h1 h2
   simp only[Option.some.injEq] at h
   subst h
   simp only[A3X,F4 h1,evp_eval h2]
  ·cases h
section
variable{P:Program}{ops:Array Oper}{W:List Oper->Act->World->Prop}{o:Oper}{rest:List Oper}{a:Act}{w:World}{v:Value}{C:World->Prop}{B:Nat}{H:World->List Blk->Prop}{L:List Blk}
theorem A0e{t:TypeId}{pl:List (Nat × Nat)}{z:List Value}(hT:StT P t pl z){vs:List (Nat × Value)}{cs:Array Value}(hc:Instr.fill (pl.toArray[·]?) z.toArray vs=some cs):P.built t vs=some cs:=by
 have h:=hT.is
 unfold stT at h
 unfold Program.built
 split at h
 ·next it fields h1 h2 =>
  split at h
  ·next zz places h3 h4 =>
   simp only[Option.some.injEq,Prod.mk.injEq] at h
   obtain⟨rfl,h5⟩:=h
   simp only[h1,h2,h3,h4,h5]
   exact hc
  ·cases h
 ·cases h
theorem built_at{t:TypeId}{n:Nat}{z:List Value}(hT:AtT P t n z){vs:List (Nat × Value)}{cs:Array Value}(hc:Instr.fill (fun i=>some (i*n,n)) z.toArray vs=some cs):P.built t vs=some cs:=by
 have h:=hT.is
 unfold atT at h
 unfold Program.built
 split at h
 ·next it m e h1 h2 =>
  split at h
  ·next zz ie h3 h4 =>
   simp only[Option.some.injEq,Prod.mk.injEq] at h
   obtain⟨rfl,h5⟩:=h
   simp only[h1,h2,h3,h4,h5]
   exact hc
  ·cases h
 ·cases h
inductive FillS (place:Nat->Option (Nat × Nat)):List Value->List (Nat × Value)->List Value->Prop
 | nil {z:List Value}:FillS place z [] z
 | one {z z' cs:List Value} {i off:Nat} {v:Value} {r:List (Nat × Value)} (hp:place i=some (off,1)) (hv:v.oneCell'=true) (ho:off<z.length) (hz:z.set off v=z') (hr:FillS place z' r cs):FillS place z ((i,v)::r) cs
 | row {z z' cs:List Value} {i off n:Nat} {vs:Array Value} {r:List (Nat × Value)} (hp:place i=some (off,n)) (hv:csz vs=n) (ho:off+n<=z.length) (hz:z.take off++vs.toList++z.drop (off+n)=z') (hr:FillS place z' r cs):FillS place z ((i,.agg vs)::r) cs
theorem fold_paste(vs:List Value):∀(off k:Nat)(z:List Value),off+k+vs.length<=z.length->(vs.zipIdx k).foldl (fun (cs:Array Value) (x:Value × Nat)=>cs.setIfInBounds (off+x.2) x.1) z.toArray=(z.take (off+k)++vs++z.drop (off+k+vs.length)).toArray:=by
 induction vs with
 | nil=>intro off k z h;simp
 | cons v vs ih =>
  intro off k z h
  simp only[A3D] at h
  rw[List.zipIdx_cons,A5r]
  simp only[A3v]
  rw[ih off (k+1) _ E6]
  congr 1
  rw[show off+(k+1)=off+k+1 by omega,List.take_set,List.drop_set,if_pos E9,A3D,show off+k+1+vs.length=off+k+(vs.length+1) by omega]
  congr 1
  apply A5d
  intro j
  simp only[List.getElem?_append,A4w,A3s,List.getElem?_set,A4f]
  by_cases h1:j<off+k
  ·simp[h1,show j<min (off+k+1) z.length by omega,show j<min (off+k) z.length by omega,show off+k≠j by omega,show j<off+k+1 by omega]
  ·by_cases h2:j=off+k
   ·subst h2
    simp[show off+k<min (off+k+1) z.length by omega,show min (off+k) z.length=off+k by omega]
   ·simp[show min (off+k) z.length=off+k by omega,show min (off+k+1) z.length=off+k+1 by omega]
    rw[show j - (off+k)=(j - (off+k+1))+1 by omega,A4M,if_neg E9,if_neg E9]
theorem A0r{place:Nat->Option (Nat × Nat)}{z cs:List Value}{vs:List (Nat × Value)}(h:FillS place z vs cs):Instr.fill place z.toArray vs=some cs.toArray:=by
 induction h with
 | nil=>rfl
 | @one z z' cs i off v r hp hv ho hz hr ih =>
  unfold Instr.fill
  rw[hp]
  have hc:v.cells=#[v]:=by cases v<;>first|rfl|(simp[Value.oneCell'] at hv)
  simp only[hc]
  rw[if_neg E6]
  subst hz
  rw[<-ih]
  congr 1
  simp
 | @row z z' cs i off n ws r hp hv ho hz hr ih =>
  unfold Instr.fill
  rw[hp]
  have hc:(Value.agg ws).cells=ws:=rfl
  have hs:ws.size=n:=hv
  simp only[hc]
  rw[if_neg (by simp[hs];omega)]
  subst hz
  rw[<-ih]
  congr 1
  have:=fold_paste ws.toList off 0 z (by simp[hs];exact ho)
  rw[<-Array.foldl_toList,Array.toList_zipIdx]
  simp only[A4n,A4y,hs] at this |-
  exact this
theorem L8{t:TypeId}{parts:Array (Nat × Operand)}{vs:List (Nat × Value)}{cs:Array Value}(hop:o.op=.build t parts)(hp:evp a parts.toList=some vs)(hb:P.built t vs=some cs):(execOp a.eval o).run P w=.ok (.value (.agg cs)) w:=by
 unfold execOp;rw[hop]
 have e1:(parts.map fun (i,x)=>(i,a.eval x)).toList=vs:=by
  rw[Array.toList_map];exact evp_eval hp
 have hr:=Go.run_build (P:=P) w t (parts.map fun (i,x)=>(i,a.eval x)) cs (by rw[e1];exact hb)
 simp only[Sem.run_bind,hr,Result.andThen_ok]
 rfl
theorem O0{t:TypeId}{parts:Array (Nat × Operand)}{vs:List (Nat × Value)}{cs:List Value}{pl:List (Nat × Nat)}{z:List Value}(hStp:Stp P ops W)(hk:W rest (a.put o.dst (.agg cs.toArray)) w)(hop:o.op=.build t parts:=by rfl)(hp:evp a parts.toList=some vs:=by rfl)(hT:StT P t pl z:=by infer_instance)(hc:FillS (pl.toArray[·]?) z vs cs:=by first|exact FillS.nil|exact FillS.one F1 F1 B0 B5 FillS.nil|exact FillS.one F1 F1 B0 B5 (FillS.one F1 F1 B0 B5 FillS.nil)|exact FillS.one F1 F1 B0 B5 (FillS.one F1 F1 B0 B5 (FillS.one F1 F1 B0 B5 FillS.nil))|exact FillS.one F1 F1 B0 B5 (FillS.one F1 F1 B0 B5 (FillS.one F1 F1 B0 B5 (FillS.one F1 F1 B0 B5 FillS.nil)))|exact FillS.one F1 F1 B0 B5 (FillS.one F1 F1 B0 B5 (FillS.one F1 F1 B0 B5 (FillS.one F1 F1 B0 B5 (FillS.one F1 F1 B0 B5 FillS.nil))))|exact FillS.one F1 F1 B0 B5 (FillS.one F1 F1 B0 B5 (FillS.one F1 F1 B0 B5 (FillS.one F1 F1 B0 B5 (FillS.one F1 F1 B0 B5 (FillS.one F1 F1 B0 B5 FillS.nil))))))(hw:Region.wanted o (yielded ops a.tmps)=true:=by rfl)(hd:isDefer o=false:=by rfl):W (o::rest) a w:=hStp.go hw hd (L8 hop hp (A0e hT (A0r hc))) hk
theorem O1{t:TypeId}{parts:Array (Nat × Operand)}{vs:List (Nat × Value)}{cs:List Value}{n:Nat}{z:List Value}(hStp:Stp P ops W)(hk:W rest (a.put o.dst (.agg cs.toArray)) w)(hop:o.op=.build t parts:=by rfl)(hp:evp a parts.toList=some vs:=by rfl)(hT:AtT P t n z:=by infer_instance)(hc:FillS (fun i=>some (i*n,n)) z vs cs:=by first|exact FillS.nil|exact FillS.one F1 F1 B0 B5 FillS.nil|exact FillS.one F1 F1 B0 B5 (FillS.one F1 F1 B0 B5 FillS.nil)|exact FillS.one F1 F1 B0 B5 (FillS.one F1 F1 B0 B5 (FillS.one F1 F1 B0 B5 FillS.nil))|exact FillS.one F1 F1 B0 B5 (FillS.one F1 F1 B0 B5 (FillS.one F1 F1 B0 B5 (FillS.one F1 F1 B0 B5 FillS.nil)))|exact FillS.one F1 F1 B0 B5 (FillS.one F1 F1 B0 B5 (FillS.one F1 F1 B0 B5 (FillS.one F1 F1 B0 B5 (FillS.one F1 F1 B0 B5 FillS.nil))))|exact FillS.one F1 F1 B0 B5 (FillS.one F1 F1 B0 B5 (FillS.one F1 F1 B0 B5 (FillS.one F1 F1 B0 B5 (FillS.one F1 F1 B0 B5 (FillS.one F1 F1 B0 B5 FillS.nil))))))(hw:Region.wanted o (yielded ops a.tmps)=true:=by rfl)(hd:isDefer o=false:=by rfl):W (o::rest) a w:=hStp.go hw hd (L8 hop hp (built_at hT (A0r hc))) hk
theorem ones_lit{l:List Value}(h:l.all Value.oneCell'=true):ones l.toArray=true:=by
 unfold ones
 simpa using h
theorem T2{t:TypeId}{x y:Operand}{n b off:Nat}{cs vs cs':Array Value}{ty:TypeId}{L':List Blk}{i:Nat}(hStp:Stp P ops W)(hH:Own B H)(hS:H w L)(hk:∀w',H w' L'->W rest (a.put o.dst undef) w')(hop:o.op=.store t x y:=by rfl)(hx:evO a x=some (.pointer (some ⟨b,off,none⟩)):=by rfl)(hy:evO a y=some (.agg vs):=by rfl)(h1:RowT P t n:=by infer_instance)(hn:csz vs=n:=by(try simp only[Q8,F3,O6,A3k,A4w,zs_len,A3s,A3H,A3D,A3S,A3u]);first|done|rfl|omega)(hv:ones vs=true:=by exact ones_lit F1)(hi:L[i]?=some (b,cs,ty):=by first|exact at_ 0 rfl|exact at_ 1 rfl|exact at_ 2 rfl|exact at_ 3 rfl|exact at_ 4 rfl|exact at_ 5 rfl|exact at_ 6 rfl|exact at_ 7 rfl|exact at_ 8 rfl|exact at_ 9 rfl|exact at_ 10 rfl|exact at_ 11 rfl|exact at_ 12 rfl|exact at_ 13 rfl)(ho:off+n<=csz cs:=by(try simp only[Q8,F3,O6,A3k,A4w,zs_len,A3s,A3H,A3D,A3S,A3u]);first|done|rfl|omega)(hc:paste cs off vs=cs':=by first|exact A1v _ _ A5|rfl)(hL:L.set i (b,cs',ty)=L':=by(try conv=>lhs;simp only[A3v,A3w,A3z,A4b,A4c]);first|done|rfl)(hw:Region.wanted o (yielded ops a.tmps)=true:=by rfl):W (o::rest) a w:=s_storeR hStp hH hS hw hop hx hy h1 hn hv hi ho hc hL hk
theorem A2u{x:Operand}{b off:Nat}(hop:o.op=.nilCheck x)(hx:evO a x=some (.pointer (some ⟨b,off,none⟩))):(execOp a.eval o).run P w=.ok (.value (.pointer (some ⟨b,off,none⟩))) w:=by
 unfold execOp;rw[hop]
 simp only[F4 hx]
 rfl
theorem K4{x:Operand}{b off:Nat}(hStp:Stp P ops W)(hk:W rest (a.put o.dst (.pointer (some ⟨b,off,none⟩))) w)(hop:o.op=.nilCheck x:=by rfl)(hx:evO a x=some (.pointer (some ⟨b,off,none⟩)):=by rfl)(hw:Region.wanted o (yielded ops a.tmps)=true:=by rfl)(hd:isDefer o=false:=by rfl):W (o::rest) a w:=hStp.go hw hd (A2u hop hx) hk
theorem q_nilCheck{x:Operand}{b off:Nat}(hop:o.op=.nilCheck x:=by rfl)(hx:evO a x=some (.pointer (some ⟨b,off,none⟩)):=by rfl):o.quietAt P a C w (.pointer (some ⟨b,off,none⟩)):=I9 (A2u hop hx)
end
end
section
open Go.RowKit
section
def nthL{α:Type}:List α->Nat->Option α
 | [],_=>none
 | a::_,0=>some a
 | _::l,n+1=>nthL l n
theorem nthL_eq{α:Type}:∀(l:List α)(n:Nat),nthL l n=l[n]?
 | [],n=>by simp[nthL]
 | a::l,0=>by simp[nthL]
 | a::l,n+1=>by simp[nthL,nthL_eq l n]
def posL:List Nat->Nat->Nat
 | [],_=>0
 | y::l,x=>if y=x then 0 else posL l x+1
def reE(s:List Nat)(e:Edge):Edge:=⟨posL s e.on,e.ground⟩
def reG(s:List Nat):Option (Nat × Bool)->Option (Nat × Bool)
 | none=>none
 | some (j,b)=>some (posL s j,b)
def reO(s:List Nat)(o:Oper):Oper:=⟨o.dst,o.op,o.type,o.pos,(o.after.toList.map (reE s)).toArray,reG s o.guard⟩
def orD:Option Oper->Oper
 | some o=>o
 | none=>default
def permL(s:List Nat)(l:List Oper):List Oper:=s.map fun i=>reO s (orD (nthL l i))
def permOK(s:List Nat)(l:List Oper):Bool :=
 (List.range l.length).all (fun i=>decide (posL s i<l.length) && nthL s (posL s i) == some i) &&
 (List.range l.length).all (fun k=>match nthL s k with|some i=>decide (i<l.length) && posL s i == k|none=>false) && s.length == l.length &&
 l.all (fun o=>o.after.toList.all (fun e=>decide (e.on<l.length)) && (match o.guard with|some g=>decide (g.1<l.length)|none=>true))
section
variable{P:Program}{md:Region.Mode}{Q:Exit->Act->World->Prop}{s:List Nat}{l:List Oper}
theorem A0M(h:permOK s l=true){i:Nat}(hi:i<l.length):posL s i<l.length/\s[posL s i]?=some i:=by
 simp only[permOK,A3A] at h
 have:=A3V.1 h.1.1.1 i (A4m.2 hi)
 simp only[A3A,decide_eq_true_eq,beq_iff_eq,nthL_eq] at this
 exact this
theorem perm_2(h:permOK s l=true){k:Nat}(hk:k<l.length):∃i,s[k]?=some i/\i<l.length/\posL s i=k:=by
 simp only[permOK,A3A] at h
 have:=A3V.1 h.1.1.2 k (A4m.2 hk)
 rw[nthL_eq] at this
 split at this
 ·next i hi =>
  simp only[A3A,decide_eq_true_eq,beq_iff_eq] at this
  exact⟨i,hi,this⟩
 ·cases this
theorem A3g(h:permOK s l=true):(permL s l).length=l.length:=by
 simp only[permOK,A3A,beq_iff_eq] at h
 unfold permL
 rw[A3u,h.1.2]
theorem perm_on(h:permOK s l=true){i:Nat}{o:Oper}(hi:l[i]?=some o){e:Edge}(he:e∈o.after):e.on<l.length:=by
 simp only[permOK,A3A] at h
 have:=A3V.1 h.2 o (A4d hi)
 simp only[A3A] at this
 have:=A3V.1 this.1 e (by simpa using he)
 simpa using this
theorem perm_guard(h:permOK s l=true){i:Nat}{o:Oper}(hi:l[i]?=some o){g:Nat × Bool}(hg:o.guard=some g):g.1<l.length:=by
 simp only[permOK,A3A] at h
 have:=A3V.1 h.2 o (A4d hi)
 simp only[A3A,hg] at this
 simpa using this.2
theorem perm_at(h:permOK s l=true){i:Nat}{o:Oper}(hi:l[i]?=some o):(permL s l)[posL s i]?=some (reO s o):=by
 have hil:=(A3n.1 hi).1
 unfold permL
 rw[A3N,(A0M h hil).2]
 simp only[A4I,nthL_eq,hi,orD]
theorem perm_yielded(h:permOK s l=true)(tmps:Array Value){j:Nat}(hj:j<l.length):yielded (permL s l).toArray tmps (posL s j)=yielded l.toArray tmps j:=by
 have hg:l[j]?=some l[j]:=A3p hj
 have h1:=perm_at h hg
 unfold yielded
 rw[A3o,A3o,h1,hg]
 rfl
theorem perm_wanted(h:permOK s l=true){i:Nat}{o:Oper}(hi:l[i]?=some o)(tmps:Array Value):Region.wanted (reO s o) (yielded (permL s l).toArray tmps)=Region.wanted o (yielded l.toArray tmps):=by
 unfold Region.wanted
 cases hg:o.guard with
 | none=>simp only[reO,hg,reG]
 | some g =>
  obtain⟨j,b⟩:=g
  have:=perm_yielded h tmps (perm_guard h hi hg)
  simp only[reO,hg,reG] at this |-
  rw[this]
theorem perm_wp(o:Oper)(a:Act)(w:World)(K:Act->World->Prop):Oper.wp P (reO s o) a w K Q↔Oper.wp P o a w K Q:=Iff.rfl
theorem W6(h:permOK s l=true){x y:Array Bool}(hx:x.size=l.length)(hy:y.size=l.length)(hxy:∀i,i<l.length->y.getD (posL s i) true=x.getD i true){i:Nat}(hil:i<l.length) :
  posL s i∈Region.ready md (permL s l).toArray y↔i∈Region.ready md l.toArray x:=by
 have hg:l[i]?=some l[i]:=A3p hil
 have hp:=perm_at h hg
 rw[mem_ready,mem_ready,hxy i hil]
 refine and_congr Iff.rfl ⟨?_,?_⟩
 ·rintro⟨o,ho,hall⟩
  rw[A3o,hp] at ho
  obtain rfl:=Option.some.inj ho
  refine⟨l[i],by rw[A3o];exact hg,fun e he hb=>?_⟩
  have hon:=perm_on h hg he
  have h1:=hall (reE s e) (by simp only[reO,List.mem_toArray];exact A3C.2 ⟨e,by simpa using he,rfl⟩) hb
  have hp1:=(A0M h hon).1
  have h1:y.getD (posL s e.on) false=true:=h1
  rw[H8 E9 false true] at h1 |-
  rw[<-hxy _ hon];exact h1
 ·rintro⟨o,ho,hall⟩
  rw[A3o,hg] at ho
  obtain rfl:=Option.some.inj ho
  refine⟨reO s l[i],by rw[A3o];exact hp,fun e he hb=>?_⟩
  simp only[reO,List.mem_toArray] at he
  obtain⟨e0,he0,rfl⟩:=A3C.1 he
  have he1:e0∈l[i].after:=by simpa using he0
  have hon:=perm_on h hg he1
  have h1:=hall e0 he1 hb
  have hp1:=(A0M h hon).1
  show y.getD (posL s e0.on) false=true
  rw[H8 E9 false true] at h1 |-
  rw[hxy _ hon];exact h1
theorem any_perm(h:permOK s l=true):∀(fuel:Nat)(x y:Array Bool)(a:Act)(w:World),x.size=l.length->y.size=l.length->(∀i,i<l.length->y.getD (posL s i) true=x.getD i true) ->
  wpAny P md (permL s l).toArray Q fuel y a w->wpAny P md l.toArray Q fuel x a w:=by
 intro fuel
 have hnil:∀(x y:Array Bool),x.size=l.length->y.size=l.length->(∀i,i<l.length->y.getD (posL s i) true=x.getD i true)->(Region.ready md (permL s l).toArray y=[]↔Region.ready md l.toArray x=[]):=by
  intro x y hx hy hxy
  constructor
  ·intro h0
   refine A4s.2 fun i hi=>?_
   obtain⟨_,o,ho,_⟩:=mem_ready.1 hi
   have hil:i<l.length:=by simpa using (A3y.1 ho).1
   have:=(W6 (md:=md) h hx hy hxy hil).2 hi
   rw[h0] at this;cases this
  ·intro h0
   refine A4s.2 fun k hk=>?_
   obtain⟨_,o,ho,_⟩:=mem_ready.1 hk
   have hkl:k<l.length:=by have:=(A3y.1 ho).1;rw[A3R,A3g h] at this;exact this
   obtain⟨i,hi,hil,rfl⟩:=perm_2 h hkl
   have:=(W6 (md:=md) h hx hy hxy hil).1 hk
   rw[h0] at this;cases this
 induction fuel with
 | zero =>
  intro x y a w hx hy hxy hA
  exact⟨(hnil x y hx hy hxy).1 hA.1,hA.2⟩
 | succ fuel ih =>
  intro x y a w hx hy hxy hA
  refine⟨fun h0=>hA.1 ((hnil x y hx hy hxy).2 h0),fun i hi=>?_⟩
  obtain⟨_,o,ho,_⟩:=mem_ready.1 hi
  have hil:i<l.length:=by simpa using (A3y.1 ho).1
  have ho2:l[i]?=some o:=by simpa using ho
  have h1:=hA.2 (posL s i) ((W6 (md:=md) h hx hy hxy hil).2 hi)
  have hp:=perm_at h ho2
  have hK:∀a' w',wpAny P md (permL s l).toArray Q fuel (y.setIfInBounds (posL s i) true) a' w'->wpAny P md l.toArray Q fuel (x.setIfInBounds i true) a' w':=fun a' w' hh=>by
   refine ih _ _ a' w' (by simpa using hx) (by simpa using hy) (fun j hj=>?_) hh
   have hj1:=A0M h hj
   have hi1:=A0M h hil
   by_cases hji:j=i
   ·subst hji
    simp[Array.getD,hx,hy,hj,hj1.1]
   ·have hne:posL s i≠posL s j:=fun e=>hji (by
     have:=hj1.2
     rw[<-e,hi1.2] at this
     exact(Option.some.inj this).symm)
    rw[getD_set_ne true hne,getD_set_ne true (Ne.symm hji)]
    exact hxy j hj
  unfold wpOp at h1 |-
  rw[A3o,hp] at h1
  rw[A3o,ho2]
  simp only at h1 |-
  rw[perm_wanted h ho2] at h1
  split
  ·next hw =>
   rw[if_pos hw] at h1
   exact h1.imp (fun h2=>Oper.wp_mono hK ((perm_wp o a w _).1 h2)) id
  ·next hw =>
   rw[if_neg hw] at h1
   exact hK _ _ h1
theorem any_mono{n:Nat}{a:Act}{w:World}(hB:frontOK md (l.take n) (l.drop n)=true)
  (h:wpM P md l.toArray w (fun a' F=>∀b w',Cls w w'->(∀x∈F,w.heap.size<=b x.1/\blk w' (b x.1)=some (.cells x.2.1 x.2.2 (0,0)))->(∀x∈F,∀y∈F,x.1≠y.1->b x.1≠b y.1)->wpList P l.toArray Q (l.drop n) (a' b) w') (l.take n) 0 (fun _=>a) []) :
  wpAny P md l.toArray Q l.length (Array.replicate l.length false) a { w with drawn:=w.drawn+1 }:=by
 have hh:l.take n++l.drop n=l:=A3O n l
 generalize l.take n=A at *
 generalize l.drop n=T at *
 subst hh
 obtain⟨L,hL,hstep,hQ⟩:=wpM_out A 0 _ [] h
 have hc:Cls w { w with drawn:=w.drawn+1 }:=⟨rfl,rfl,rfl,A3t _,fun _ _=>rfl⟩
 refine any_front hB hL hstep (fun b w' hN=>hQ b w' hN.1 (fun x hx=>?_) (fun x hx y hy hne=>?_)) _ _ (fun _=>0) a _ F0 (fun j o _ hl=>by simp only[Array.getD] at hl;split at hl<;>simp at hl) (fun j _ hj=>by simp only[A3k] at hj;simp[Array.getD];omega) ?_ ?_ ?_
 ·rcases mem_factsT _ _ _ hx with h1|⟨k,o,mk,hk,he⟩
  ·cases h1
  ·have:x.1=k:=by omega
   rw[this]
   exact hN.2.1 k o mk _ _ hk rfl
 ·rcases mem_factsT _ _ _ hx with h1|⟨k,o,mk,hk,he⟩
  ·cases h1
  rcases mem_factsT _ _ _ hy with h1|⟨k',o',mk',hk',he'⟩
  ·cases h1
  have e1:x.1=k:=by omega
  have e2:y.1=k':=by omega
  rw[e1,e2] at hne |-
  exact hN.2.2 k k' _ _ _ _ _ _ _ _ hk hk' rfl rfl hne
 ·unfold left
  exact A3T List.countP_le_length F0
 ·refine(Sees.start L a (fun _=>0)).congr (fun j _=>?_) (fun _ _ _=>rfl)
  simp only[Array.getD]
  split<;>simp
 ·refine⟨hc,fun j o mk cs t hj hl=>?_,fun i j x y mx cx tx my cy ty hi hj h1 _=>?_⟩
  ·simp only[Array.getD] at hl
   split at hl<;>simp at hl
  ·simp only[Array.getD] at h1
   split at h1<;>simp at h1
end
end
section
def lst(n:Nat)(R:List Nat):Array Bool:=((List.range n).map fun i => !R.contains i).toArray
def pureKind(o:Oper):Bool:=match o.op with
 | .move _|.assign _|.pick .. | .extract .. | .slice .. | .fieldAddr .. | .field .. | .indexAddr .. | .binOp .. | .unOp .. | .convert .. | .makeInterface .. => true
 | _=>false
def pullOK(ops:Array Oper)(R:List Nat)(i:Nat):Bool :=
 let R':=R.erase i
 Region.noSelect ops && (Region.ready .any ops (lst ops.size R)).contains i && (lst ops.size R).setIfInBounds i true == lst ops.size R' && R.length == R'.length+1 &&
 (match ops[i]? with
 | some oi=>pureKind oi && R'.all (fun j=>match ops[j]? with
  | some oj=>oj.after.toList.any (fun e=>Region.binds .any e && e.on == i) || oi.apart ops oj
  | none=>true) && (List.range ops.size).all (fun j=>j == i || R'.contains j || (lst ops.size R).getD j true)
 | none=>false)
def turnOK(ops:Array Oper)(R:List Nat)(i:Nat):Bool :=
 let R':=R.erase i
 Region.ready .any ops (lst ops.size R) == [i] && (lst ops.size R).setIfInBounds i true == lst ops.size R' && R.length == R'.length+1
def turn2OK(ops:Array Oper)(R:List Nat)(i j:Nat):Bool :=
 let R1:=R.erase i
 let R2:=R.erase j
 Region.ready .any ops (lst ops.size R) == [i,j] && (lst ops.size R).setIfInBounds i true == lst ops.size R1 && (lst ops.size R).setIfInBounds j true == lst ops.size R2 && R.length == R1.length+1 && R.length == R2.length+1
def WA(P:Program)(ops:Array Oper)(Q:Exit->Act->World->Prop)(R:List Nat)(a:Act)(w:World):Prop:=wpAny P .any ops Q R.length (lst ops.size R) a w
section
variable{P:Program}{ops:Array Oper}{Q:Exit->Act->World->Prop}{R:List Nat}{a:Act}{w:World}{o:Oper}
theorem nth_at{i:Nat}(h:nthL ops.toList i=some o):ops[i]?=some o:=by
 rw[nthL_eq] at h
 simpa using h
theorem T0{id:Nat}(R:List Nat)(hm:P.follows .mixedOrders=true)(hR:(lst ops.size R == Array.replicate ops.size false && R.length == ops.size)=true)(h:∀w',Cls w w'->WA P ops Q R a w'):(Code.region id ops true).wp P Q a w:=by
 simp only[A3A,beq_iff_eq] at hR
 refine wp_region_any hm ?_
 have:=h { w with drawn:=w.drawn+1 } ⟨rfl,rfl,rfl,A3t _,fun _ _=>rfl⟩
 unfold WA at this
 rwa [hR.1,hR.2] at this
theorem K6(hR:(R.isEmpty && Region.ready .any ops (lst ops.size R) == [])=true)(h:wpList P ops Q [] a w):WA P ops Q R a w:=by
 simp only[A3A,beq_iff_eq,List.isEmpty_iff] at hR
 obtain⟨rfl,hR⟩:=hR
 exact⟨hR,h⟩
theorem pull_pure{v:Value}(hpk:pureKind o=true)(hw:Region.wanted o (yielded ops a.tmps)=true)(hq:∀(C:World->Prop) w',o.quietAt P a C w' v):Yields P ops o v a:=by
 refine .inl ⟨hw,fun w'=>?_⟩
 have h1:=hq (fun _=>True) w'
 unfold Oper.quietAt at h1
 have hne:∀f args w2,(execOp a.eval o).run P w'≠.ok (.enter f args) w2:=by
  intro f args w2 he
  unfold pureKind at hpk
  unfold execOp at he
  split at hpk<;>first|(cases hpk;done)|skip
  all_goals
   next hop =>
   rw[hop] at he
   simp only[Sem.run_bind,Sem.run_pure] at he
   first
    | (cases he;done)
    | (revert he;generalize Sem.run P _ w'=r;cases r<;>(intro he;simp[Result.andThen] at he;done))
    | (revert he;generalize Sem.run P _ w'=r;cases r<;>intro he<;>simp only[Result.andThen] at he<;>first|(cases he;done)|(revert he;generalize Sem.run P _ _=r2;cases r2<;>(intro he;simp at he;done)))
 have hns2:∀w2,(execOp a.eval o).run P w'=.ok .skip w2->False:=by
  intro w2 he
  unfold pureKind at hpk
  unfold execOp at he
  split at hpk<;>first|(cases hpk;done)|skip
  all_goals
   next hop =>
   rw[hop] at he
   simp only[Sem.run_bind,Sem.run_pure] at he
   first
    | (cases he;done)
    | (revert he;generalize Sem.run P _ w'=r;cases r<;>(intro he;simp[Result.andThen] at he;done))
    | (revert he;generalize Sem.run P _ w'=r;cases r<;>intro he<;>simp only[Result.andThen] at he<;>first|(cases he;done)|(revert he;generalize Sem.run P _ _=r2;cases r2<;>(intro he;simp at he;done)))
 generalize hr:(execOp a.eval o).run P w'=r at *
 cases r with
 | halt x w2=>exact h1.elim
 | ok n w2 =>
  cases n<;>simp only[Oper.quietUpon] at h1
  case value u=>obtain⟨rfl,rfl⟩:=h1;rfl
  case skip=>exact(hns2 _ rfl).elim
  case enter f args=>exact absurd rfl (hne f args w2)
theorem any_first{v:Value}(i:Nat)(hok:pullOK ops R i=true)(hi':nthL ops.toList i=some o)(hQ:∀(u:Value) c a w,Q (.panic c) (a.put o.dst u) w->Q (.panic c) a w)
  (hy:pureKind o=true->Yields P ops o v a)(h:WA P ops Q (R.erase i) (a.put o.dst v) w):WA P ops Q R a w:=by
 have hi:=nth_at hi'
 unfold pullOK at hok
 rw[hi] at hok
 simp only[A3A,beq_iff_eq] at hok
 obtain⟨⟨⟨⟨hns,hrd⟩,hset⟩,hlen⟩,⟨hpk,hall⟩,hcov⟩:=hok
 replace hy:=hy hpk
 unfold WA at h |-
 rw[hlen]
 refine wpAny_first hi (Region.noSelect_spec hns) (hQ v) _ _ _ _ ?_ (List.contains_iff_mem.1 hrd) hy (by rw[hset];exact h)
 intro j oj hoj hji hun hno
 have hjl:j<ops.size:=(A3y.1 hoj).1
 have h1:=A3V.1 hcov j (A4m.2 hjl)
 simp only[A4S,beq_iff_eq] at h1
 rcases h1 with (h1|h1)|h1
 ·exact absurd h1 hji
 ·have h2:=A3V.1 hall j (List.contains_iff_mem.1 h1)
  rw[hoj] at h2
  simp only[A4S] at h2
  rcases h2 with h2|h2
  ·obtain⟨e,he,hb⟩:=A5H.1 h2
   simp only[A3A,beq_iff_eq] at hb
   exact absurd hb.2 (hno e (by simpa using he) hb.1)
  ·exact h2
 ·rw[h1] at hun;cases hun
theorem any_pull(i:Nat)(hok:pullOK ops R i=true)(hi':nthL ops.toList i=some o)(hw:Region.wanted o (yielded ops a.tmps)=true)(hQ:∀(u:Value) c a w,Q (.panic c) (a.put o.dst u) w->Q (.panic c) a w)
  (h:∃v,(∀(C:World->Prop) w',o.quietAt P a C w' v)/\WA P ops Q (R.erase i) (a.put o.dst v) w):WA P ops Q R a w:=by
 obtain⟨v,hq,h⟩:=h
 exact any_first i hok hi' hQ (fun hpk=>pull_pure hpk hw hq) h
theorem Zpl(i:Nat){v:Value}(h:WA P ops Q (R.erase i) (a.put o.dst v) w)(hok:pullOK ops R i=true:=by kernel_rfl)(hi':nthL ops.toList i=some o:=by rfl)(hw:Region.wanted o (yielded ops a.tmps)=true:=by rfl)(hQ:∀(u:Value) c a w,Q (.panic c) (a.put o.dst u) w->Q (.panic c) a w:=by exact fun _ _ _ _ h=>h)(hq:∀(C:World->Prop) w',o.quietAt P a C w' v:=by intro C w';first|exact q_move|exact A1h|exact A0z|exact Y4|exact q_slice|exact A1o|exact q_sliceNil|exact q_pick|exact q_not|exact q_cmp_t|exact q_cmp_f|exact q_add|exact q_sub|exact q_mul|exact q_quo|exact q_rem|exact A1w|exact A0y|exact A1H|exact A0F|exact q_makeInterface|exact q_conv|exact Y7|exact V2):WA P ops Q R a w:=any_pull i hok hi' hw hQ ⟨v,hq,h⟩
theorem G9{d:Option Nat}{v:Value}{a2:Act}(h:WA P ops Q R a2 w)(hput:a.put d v=a2:=by(conv=>lhs;simp only[Act.put,A3v,A3w,A3z]);first|done|rfl):WA P ops Q R (a.put d v) w:=by rw[hput];exact h
theorem lets_then{K:Act->World->Prop}(h:LetsOut (Exit.then K Q)):LetsOut Q:=by
 obtain⟨a,w,h⟩:=h
 exact⟨a,w,h⟩
theorem wp_thenK{K:Act->World->Prop}(h:o.wp P a w (wpList P ops (Exit.then K Q) []) (Exit.then K Q)):o.wp P a w K Q:=by
 unfold Oper.wp at h |-
 generalize (execOp a.eval o).run P w=r at *
 cases r with
 | ok n w' =>
  cases n<;>simp only[Oper.upon] at h |-
  case enter f args =>
   refine Calls.mono h fun e w'' he=>?_
   cases e with
   | returned v=>exact he
   | panicked c=>exact he
   | outgrown=>exact lets_then he
  all_goals exact h
 | halt x w'=>cases x<;>simp only[Oper.upon] at h |-<;>exact h
theorem any_op{K:Act->World->Prop}{i:Nat}(hi':nthL ops.toList i=some o)(h:wpList P ops (Exit.then K Q) [o] a w):wpOp P ops Q i K a w:=by
 have hi:=nth_at hi'
 unfold wpOp
 rw[hi]
 unfold wpList at h
 simp only at h |-
 split
 ·next hw =>
  rw[if_pos hw] at h
  exact h.imp wp_thenK fun h2=>⟨h2.1,lets_then h2.2⟩
 ·next hw =>
  rw[if_neg hw] at h
  exact h
theorem F9(i:Nat)(hok:turnOK ops R i=true)(hi':nthL ops.toList i=some o)(h:wpList P ops (Exit.then (WA P ops Q (R.erase i)) Q) [o] a w):WA P ops Q R a w:=by
 unfold turnOK at hok
 simp only[A3A,beq_iff_eq] at hok
 obtain⟨⟨hrd,hset⟩,hlen⟩:=hok
 unfold WA at h |-
 rw[hlen]
 refine⟨fun h0=>(by rw[hrd] at h0;cases h0),fun k hk=>?_⟩
 rw[hrd,A4p] at hk
 subst hk
 rw[hset]
 exact any_op hi' h
theorem U2{o2:Oper}(i j:Nat)(hok:turn2OK ops R i j=true)(hi':nthL ops.toList i=some o)(hj':nthL ops.toList j=some o2)(h1:wpList P ops (Exit.then (WA P ops Q (R.erase i)) Q) [o] a w)(h2:wpList P ops (Exit.then (WA P ops Q (R.erase j)) Q) [o2] a w):WA P ops Q R a w:=by
 unfold turn2OK at hok
 simp only[A3A,beq_iff_eq] at hok
 obtain⟨⟨⟨⟨hrd,hset1⟩,hset2⟩,hlen1⟩,hlen2⟩:=hok
 unfold WA at h1 h2 |-
 rw[hlen1]
 rw[<-Nat.succ_inj.1 (hlen1.symm.trans hlen2)] at h2
 refine⟨fun h0=>(by rw[hrd] at h0;cases h0),fun k hk=>?_⟩
 rw[hrd] at hk
 rcases A3G.1 hk with rfl|hk
 ·rw[hset1]
  exact any_op hi' h1
 ·rw[A4p] at hk
  subst hk
  rw[hset2]
  exact any_op hj' h2
end
end
end
end Go.Proofs.YtlfbfbbdpcihfaaGreat
