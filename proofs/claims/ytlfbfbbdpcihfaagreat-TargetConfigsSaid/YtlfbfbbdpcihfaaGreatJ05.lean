/- Laws that the claim uses. No condition of their own. -/
import Derived.Test.YtlfbfbbdpcihfaaGreatJ04
set_option maxRecDepth 100000
set_option maxHeartbeats 8000000
set_option linter.all false
namespace Go.Proofs.YtlfbfbbdpcihfaaGreat
section
open Go.RowKit
abbrev Blk:=Nat × Array Value × TypeId
theorem Q8(cs:Array Value)(i:Nat)(v:Value):csz (cs.setIfInBounds i v)=csz cs:=by unfold csz;simp
structure Own(B:Nat)(H:World->List Blk->Prop):Prop where
 blk:∀{w:World}{L:List Blk}(i:Nat){b:Nat}{cs:Array Value}{t:TypeId},H w L->L[i]?=some (b,cs,t)->Go.Proofs.YtlfbfbbdpcihfaaGreat.blk w b=some (.cells cs t (0,0))
 call:∀{w w':World}{L:List Blk},H w L->Below w.heap.size w w'->H w' L
 alloc:∀{w:World}{L:List Blk}(cs:Array Value)(t:TypeId),H w L->H (w.alloc (.cells cs t)) ((w.heap.size,cs,t)::L)
 setRow:∀{w:World}{L:List Blk}(i:Nat){b:Nat}{cs:Array Value}{t:TypeId}(cs':Array Value),H w L->L[i]?=some (b,cs,t)->H (w.setRow b cs') (L.set i (b,cs',t))
 size:∀{w:World}{L:List Blk},H w L->B<=w.heap.size
 add:∀{w W:World}{L L':List Blk}{g:Nat}{cs:Array Value}{t:TypeId},H w L->H W L'->W.heap.size<=g->g∉L.map (·.1)->Go.Proofs.YtlfbfbbdpcihfaaGreat.blk w g=some (.cells cs t (0,0))->H w ((g,cs,t)::L)
 nodup:∀{w:World}{L:List Blk},H w L->(L.map (·.1)).Nodup
 sub:∀{w:World}{L L':List Blk},H w L->(∀x∈L',x∈L)->(L'.map (·.1)).Nodup->H w L'
theorem In.sub{L0:List Blk}{w0 w:World}{L L':List Blk}(h:In L0 w0 L w)(hx:∀x∈L',x∈L)(hn:(L'.map (·.1)).Nodup):In L0 w0 L' w :=
 ⟨⟨⟨fun x hm=>by
  obtain⟨y,hy,rfl⟩:=A3C.1 hm
  exact h.rd.holds.1 _ (A3C.2 ⟨y,hx y hy,rfl⟩),by rw[J2];exact hn⟩,h.rd.kept,fun x hm=>by
  obtain⟨y,hy,rfl⟩:=A3C.1 hm
  exact h.rd.fresh _ (A3C.2 ⟨y,hx y hy,rfl⟩)⟩⟩
theorem St.add{w0 w:World}{L:List Blk}{g:Nat}{cs:Array Value}{t:TypeId}(h:St w0 w L)(hB:w0.heap.size<=g)(hn:g∉L.map (·.1))(hb:Go.Proofs.YtlfbfbbdpcihfaaGreat.blk w g=some (.cells cs t (0,0))):St w0 w ((g,cs,t)::L) :=
 ⟨h.1,fun x hx=>by
  rcases A3G.1 hx with rfl|hx
  ·exact⟨hB,hb⟩
  ·exact h.2.1 x hx,by simp only[A3X,A4a];exact⟨hn,h.2.2⟩⟩
theorem In.add{L0:List Blk}{w0 w:World}{L:List Blk}{g:Nat}{cs:Array Value}{t:TypeId}(h:In L0 w0 L w)(hB:w0.heap.size<=g)(hn:g∉L.map (·.1))(hb:Go.Proofs.YtlfbfbbdpcihfaaGreat.blk w g=some (.cells cs t (0,0))):In L0 w0 ((g,cs,t)::L) w:=by
 refine⟨⟨⟨fun x hx=>?_,?_⟩,h.rd.kept,fun x hx=>?_⟩⟩
 ·rcases A3G.1 hx with rfl|hx
  ·exact hb
  ·exact h.rd.holds.1 x hx
 ·have:=h.rd.holds.2
  rw[J2] at this |-
  simp only[A3X,A4a]
  exact⟨hn,this⟩
 ·rcases A3G.1 hx with rfl|hx
  ·exact .inr hB
  ·exact h.rd.fresh x hx
theorem own_st{w0:World}:Own w0.heap.size (St w0):=⟨fun i _ _ _ h hi=>h.blk i hi,fun h hb=>h.call hb,fun cs t h=>h.alloc cs t,fun i _ _ _ cs' h hi=>h.setRow i hi cs',fun h=>h.1.size,fun h hW hg hn hb=>h.add (A3T hW.1.size hg) hn hb,fun h=>h.2.2,fun h hx hn=>⟨h.1,fun x hm=>h.2.1 x (hx x hm),hn⟩⟩
theorem own_in{L0:List Blk}{w0:World}:Own w0.heap.size (fun w L=>In L0 w0 L w):=⟨fun i _ _ _ h hi=>(h.at i hi).1,fun h hb=>h.call hb,fun cs t h=>h.alloc cs t,fun i _ _ _ cs' h hi=>h.setRow i hi cs',fun h=>h.rd.kept.size,fun h hW hg hn hb=>h.add (A3T hW.rd.kept.size hg) hn hb,fun h=>by have:=h.rd.holds.2;rwa [J2] at this,fun h hx hn=>h.sub hx hn⟩
theorem Own.setCell{B:Nat}{H:World->List Blk->Prop}(hH:Own B H){w:World}{L:List Blk}(i:Nat){b:Nat}{cs:Array Value}{t:TypeId}(o:Nat)(v:Value)(h:H w L)(hi:L[i]?=some (b,cs,t)):H (w.setCell ⟨b,o,none⟩ v) (L.set i (b,cs.setIfInBounds o v,t)):=by
 rw[setCell_eq_setRow w b o cs t (0,0) v (hH.blk i h hi)]
 exact hH.setRow i _ h hi
theorem Own.lt{B:Nat}{H:World->List Blk->Prop}(hH:Own B H){w:World}{L:List Blk}(h:H w L){b:Nat}(hb:b∈L.map (·.1)):b<w.heap.size:=by
 obtain⟨x,hx,rfl⟩:=A3C.1 hb
 obtain⟨i,hi,rfl⟩:=List.getElem_of_mem hx
 exact G1 (hH.blk i h (b:=L[i].1) (cs:=L[i].2.1) (t:=L[i].2.2) (A3p hi))
theorem Own.new{B:Nat}{H:World->List Blk->Prop}(hH:Own B H){w w':World}{L:List Blk}(h:H w L)(hb:Below w.heap.size w w'){g:Nat}{cs:Array Value}{t:TypeId}(hg:w.heap.size<=g)(hc:Go.Proofs.YtlfbfbbdpcihfaaGreat.blk w' g=some (.cells cs t (0,0))):H w' ((g,cs,t)::L) :=
 hH.add (hH.call h hb) h hg (fun hm=>by have:=hH.lt h hm;omega) hc
theorem Own.news{B:Nat}{H:World->List Blk->Prop}(hH:Own B H){W w':World}{L:List Blk}{b:Nat->Nat}(h:H W L)(hc:Cls W w'):∀(F:List Fact),(F.map (·.1)).Nodup->(∀x∈F,W.heap.size<=b x.1/\Go.Proofs.YtlfbfbbdpcihfaaGreat.blk w' (b x.1)=some (.cells x.2.1 x.2.2 (0,0))) ->
  (∀x∈F,∀y∈F,x.1≠y.1->b x.1≠b y.1)->H w' (F.map (fun x=>(b x.1,x.2.1,x.2.2))++L)
 | [],_,_,_=>hH.call h hc
 | f::F,hd,hF,hN=>by
  simp only[A3X,A4a] at hd
  have h1:=Own.news hH h hc F hd.2 (fun x hx=>hF x (A3l _ hx)) (fun x hx y hy=>hN x (A3l _ hx) y (A3l _ hy))
  have hf:=hF f (A3m ..)
  refine hH.add h1 h hf.1 (fun hm=>?_) hf.2
  replace hm:b f.1∈(F.map (fun x=>(b x.1,x.2.1,x.2.2))++L).map (·.1):=hm
  rw[A3J,A3Y] at hm
  rcases hm with hm|hm
  ·simp only[List.map_map,A3C,Function.comp] at hm
   obtain⟨y,hy,he⟩:=hm
   by_cases h2:y.1=f.1
   ·exact hd.1 (A3C.2 ⟨y,hy,h2⟩)
   ·exact hN y (A3l _ hy) f (A3m ..) h2 he
  ·have:=hH.lt h hm
   omega
theorem Zn{P:Program}{md:Region.Mode}{ops:Array Oper}{B:Nat}{H:World->List Blk->Prop}(hH:Own B H){W:World}{L:List Blk}(hS:H W L){i:Nat}{a:(Nat->Nat)->Act}{F:List Fact}{G:((Nat->Nat)->Act)->List Fact->(Nat->Nat)->World->Prop}{L':(Nat->Nat)->List Blk}(h:∀pB w',H w' (L' pB)->G a F pB w')
  (hl:∀pB:Nat->Nat,F.map (fun x=>(pB x.1,x.2.1,x.2.2))++L=L' pB:=by intro pB;(conv=>lhs;simp only[A3X,List.map_nil,A3F,A3q]);first|done|rfl)(hd:(F.map (·.1)).Nodup:=by first|decide|simp) :
  wpM P md ops W (fun a' F'=>∀b w',Cls W w'->(∀x∈F',W.heap.size<=b x.1/\Go.Proofs.YtlfbfbbdpcihfaaGreat.blk w' (b x.1)=some (.cells x.2.1 x.2.2 (0,0)))->(∀x∈F',∀y∈F',x.1≠y.1->b x.1≠b y.1)->G a' F' b w') [] i a F :=
 wpM_nil fun b w' hc h1 h2=>h b w' (hl b ▸ Own.news hH hS hc F hd h1 h2)
theorem front_perm{α:Type}:∀(L:List α)(i:Nat)(h:i<L.length),(L[i]::L.eraseIdx i).Perm L
 | x::L,0,_=>.refl _
 | x::L,i+1,h=>(List.Perm.swap x _ _).trans (.cons x (front_perm L i (by simpa using h)))
theorem Own.front{B:Nat}{H:World->List Blk->Prop}(hH:Own B H){w:World}{L:List Blk}(h:H w L){i:Nat}{x:Blk}(hi:L[i]?=some x):H w (x::L.eraseIdx i):=by
 obtain⟨hl,rfl⟩:=A3n.1 hi
 have hp:=front_perm L i hl
 exact hH.sub h (fun y hy=>hp.mem_iff.1 hy) ((hp.map (·.1)).nodup_iff.2 (hH.nodup h))
theorem Own.drop{B:Nat}{H:World->List Blk->Prop}(hH:Own B H){w:World}{x:Blk}{L:List Blk}(h:H w (x::L)):H w L :=
 hH.sub h (fun y hy=>A3l _ hy) (A4a.1 (by simpa using hH.nodup h)).2
theorem at_{L:List Blk}(i:Nat){x:Blk}(h:L[i]?=some x):L[i]?=some x:=h
def oneT(P:Program)(t:TypeId):Bool:=match P.underlying t with|none=>false|some (.struct _)=>false|some (.array _ _)=>false|some _=>true
def elT(P:Program)(t:TypeId):Option Nat:=match P.underlying t with|some (.slice e)=>(P.info? e).map (·.size)|_=>none
def arT(P:Program)(t:TypeId):Option (Nat × Nat):=match P.underlying t with|some (.array n e)=>((P.info? e).map (·.size)).map fun m=>(n,m)|_=>none
def zeroT(P:Program)(t:TypeId):Option (Array Value):=((P.info? t).bind (·.zero)).map (·.cells)
def isGo(P:Program)(f:FuncId):Bool:=match P.funcs[f]? with|some fn=>fn.name != "runtime.NumGoroutine" && fn.body.isSome|none=>false
class ElT(P:Program)(t:TypeId)(m:outParam Nat):Prop where
 is:elT P t=some m
class ArT(P:Program)(t:TypeId)(n m:outParam Nat):Prop where
 is:arT P t=some (n,m)
class OneT(P:Program)(t:TypeId):Prop where
 is:oneT P t=true
 sz:(P.info? t).map (·.size)=some 1
class RowT(P:Program)(t:TypeId)(n:outParam Nat):Prop where
 is:isRow P t n=true
 sz:(P.info? t).map (·.size)=some n
class ZeroT(P:Program)(t:TypeId)(cs:outParam (Array Value)):Prop where
 is:zeroT P t=some cs
def fldT(P:Program)(s k:Nat):Option (Nat × Nat × Nat):=match P.underlying s with
 | some (.struct fs)=>(match fs[k]? with|some f=>(match P.info? f.type with|some i=>(if i.size=0 then none else some (f.offset,i.size,f.type))|none=>none)|none=>none)
 | _=>none
class FldT(P:Program)(s k:Nat)(off n:outParam Nat):Prop where
 is:∃t,fldT P s k=some (off,n,t)
class IfaceT(P:Program)(t:TypeId):Prop where
 is:(match P.underlying t with|some (.interface _)=>false|none=>false|some _=>true)=true
class IfT(P:Program)(t:TypeId):Prop where
 is:P.underlying t=some (.interface (P.methodsAt t))
class SlT(P:Program)(t:TypeId)(e size bytes:outParam Nat):Prop where
 is:elemB P t e size bytes=true
class IntT(P:Program)(t:TypeId)(k:outParam IntKind):Prop where
 is:P.underlying t=some (.int k)
class GoF(P:Program)(f:FuncId):Prop where
 is:isGo P f=true
def evO(a:Act):Operand->Option Value
 | .tmp t=>a.tmps.toList[t]?
 | .const v=>some v
 | .global g=>some (.pointer (some ⟨g,0,none⟩))
 | .func f=>some (.func (.func f) #[] #[])
theorem F4{a:Act}{x:Operand}{v:Value}(h:evO a x=some v):a.eval x=v:=by
 cases x with
 | tmp t =>
  simp only[evO,A3r] at h
  simp only[Act.eval,Array.getD_eq_getD_getElem?,h,Option.getD_some]
 | const v'=>simp only[evO,Option.some.injEq] at h;exact h
 | global g=>simp only[evO,Option.some.injEq] at h;exact h
 | func f=>simp only[evO,Option.some.injEq] at h;exact h
def evs(a:Act):List Operand->Option (List Value)
 | []=>some []
 | x::l=>match evO a x,evs a l with
  | some v,some vs=>some (v::vs)
  | _,_=>none
theorem X8{a:Act}:∀{l:List Operand}{vs:List Value},evs a l=some vs->l.map a.eval=vs
 | [],vs,h=>by simp only[evs,Option.some.injEq] at h;exact h
 | x::l,vs,h=>by
  simp only[evs] at h
  split at h
  ·rename_i v vs' h1 h2
   simp only[Option.some.injEq] at h
   subst h
   simp only[A3X,F4 h1,X8 h2]
  ·cases h
def isDefer(o:Oper):Bool:=match o.op with|.defer _=>true|_=>false
theorem S4{o:Oper}(h:isDefer o=false):∀c,o.op≠.defer c:=fun c e=>by simp[isDefer,e] at h
structure Stp(P:Program)(ops:Array Oper)(W:List Oper->Act->World->Prop):Prop where
 go:∀{o:Oper}{rest:List Oper}{a:Act}{w w':World}{v:Value},Region.wanted o (yielded ops a.tmps)=true->isDefer o=false->(execOp a.eval o).run P w=.ok (.value v) w'->W rest (a.put o.dst v) w'->W (o::rest) a w
 mute:∀{o:Oper}{rest:List Oper}{a:Act}{w w':World},Region.wanted o (yielded ops a.tmps)=true->isDefer o=false->(execOp a.eval o).run P w=.ok .skip w'->W rest (a.put o.dst undef) w'->W (o::rest) a w
 enter:∀{o:Oper}{rest:List Oper}{a:Act}{w w':World}{f:FuncId}{args:Array Value}{R:Value->World->Prop},Region.wanted o (yielded ops a.tmps)=true->isDefer o=false->(execOp a.eval o).run P w=.ok (.enter f args) w' ->
  Calls P f args w' (fun e w''=>∃v,e=.returned v/\R v w'')->(∀v w'',R v w''->W rest (a.put o.dst v) w'')->W (o::rest) a w
 skip:∀{o:Oper}{rest:List Oper}{a:Act}{w:World},Region.wanted o (yielded ops a.tmps)=false->W rest (a.put o.dst undef) w->W (o::rest) a w
theorem stp_list{P:Program}{ops:Array Oper}{Q:Exit->Act->World->Prop}:Stp P ops (wpList P ops Q) where
 go:=fun hw _ hr hk=>by
  unfold wpList
  rw[if_pos hw]
  refine .inl ?_
  unfold Oper.wp
  rw[hr]
  exact hk
 mute:=fun hw _ hr hk=>by
  unfold wpList
  rw[if_pos hw]
  refine .inl ?_
  unfold Oper.wp
  rw[hr]
  exact hk
 enter:=fun hw _ hr hc hk=>by
  unfold wpList
  rw[if_pos hw]
  refine .inl ?_
  unfold Oper.wp
  rw[hr,Oper.upon_enter]
  refine hc.mono ?_
  rintro e w'' ⟨v,rfl,hR⟩
  exact hk v w'' hR
 skip:=fun hw hk=>wpList_skip hw hk
theorem G0{P:Program}{ops:Array Oper}{Q:Exit->Act->World->Prop}{lp:Nat}:Stp P ops (wpListIn (Fence.wide.inRound lp) 0 P ops Q) where
 go:=fun hw hd hr hk=>by
  unfold wpListIn
  rw[if_pos hw]
  unfold Oper.wpIn
  refine⟨fun _ _=>trivial,?_⟩
  rw[Oper.semAt_plain _ _ _ (S4 hd),hr,Oper.uponIn_value]
  exact hk
 mute:=fun hw hd hr hk=>by
  unfold wpListIn
  rw[if_pos hw]
  unfold Oper.wpIn
  refine⟨fun _ _=>trivial,?_⟩
  rw[Oper.semAt_plain _ _ _ (S4 hd),hr,Oper.uponIn_skip]
  exact hk
 enter:=fun hw hd hr hc hk=>by
  unfold wpListIn
  rw[if_pos hw]
  unfold Oper.wpIn
  refine⟨fun _ _=>trivial,?_⟩
  rw[Oper.semAt_plain _ _ _ (S4 hd),hr,Oper.uponIn_enter]
  refine⟨fun h=>(by cases h),?_⟩
  refine(CallsIn.inRound lp (callsIn_wide.2 hc)).mono ?_
  rintro e w'' ⟨v,rfl,hR⟩
  exact hk v w'' hR
 skip:=fun hw hk=>by
  unfold wpListIn
  rw[if_neg (by rw[hw];decide)]
  exact⟨fun _ _=>trivial,hk⟩
theorem wpIn_scope_wide{P:Program}{n:Nat}{Q:Exit->Act->World->Prop}{a:Act}{w:World}{c:Code}(h:c.wpIn Fence.wide n P (Exit.noGoto Q) a w):(Code.scope c).wpIn Fence.wide n P Q a w:=wpIn_wide.2 (wp_scope_straight (wpIn_wide.1 h))
theorem F5{P:Program}{ops:Array Oper}{Q:Exit->Act->World->Prop}{n:Nat}:Stp P ops (wpListIn Fence.wide n P ops Q) where
 go:=fun hw hd hr hk=>by
  unfold wpListIn
  rw[if_pos hw]
  unfold Oper.wpIn
  refine⟨fun _ _=>trivial,?_⟩
  rw[Oper.semAt_plain _ _ _ (S4 hd),hr,Oper.uponIn_value]
  exact hk
 mute:=fun hw hd hr hk=>by
  unfold wpListIn
  rw[if_pos hw]
  unfold Oper.wpIn
  refine⟨fun _ _=>trivial,?_⟩
  rw[Oper.semAt_plain _ _ _ (S4 hd),hr,Oper.uponIn_skip]
  exact hk
 enter:=fun hw hd hr hc hk=>by
  unfold wpListIn
  rw[if_pos hw]
  unfold Oper.wpIn
  refine⟨fun _ _=>trivial,?_⟩
  rw[Oper.semAt_plain _ _ _ (S4 hd),hr,Oper.uponIn_enter]
  refine⟨fun h=>(by cases h),?_⟩
  refine(callsIn_wide.2 hc).mono ?_
  rintro e w'' ⟨v,rfl,hR⟩
  exact hk v w'' hR
 skip:=fun hw hk=>by
  unfold wpListIn
  rw[if_neg (by rw[hw];decide)]
  exact⟨fun _ _=>trivial,hk⟩
section
variable{P:Program}{ops:Array Oper}{W:List Oper->Act->World->Prop}{o:Oper}{rest:List Oper}{a:Act}{w w':World}{v:Value}{B:Nat}{H:World->List Blk->Prop}{L:List Blk}
theorem r_move{x:Operand}(hop:o.op=.move x)(hx:evO a x=some v):(execOp a.eval o).run P w=.ok (.value v) w:=by
 unfold execOp;rw[hop];simp only[F4 hx];rfl
theorem r_assign{x:Operand}(hop:o.op=.assign x)(hx:evO a x=some v):(execOp a.eval o).run P w=.ok (.value v) w:=by
 unfold execOp;rw[hop];simp only[F4 hx];rfl
theorem r_pick{c x y:Operand}{b:Bool}(hop:o.op=.pick c x y)(hc:evO a c=some (.bool b))(hv:(if b then evO a x else evO a y)=some v):(execOp a.eval o).run P w=.ok (.value v) w:=by
 unfold execOp;rw[hop]
 cases b
 ·simp only[Bool.false_eq_true,if_false] at hv
  simp[F4 hc,F4 hv,asBool]
 ·simp only[if_true] at hv
  simp[F4 hc,F4 hv,asBool]
theorem r_not{t:TypeId}{x:Operand}{b c:Bool}(hop:o.op=.unOp .not t x)(hx:evO a x=some (.bool b))(hc:(!b)=c):(execOp a.eval o).run P w=.ok (.value (.bool c)) w:=by
 unfold execOp;rw[hop];simp only[F4 hx,<-hc];rfl
theorem r_extract{x:Operand}{k:Nat}{vs:Array Value}(hop:o.op=.extract x k)(hx:evO a x=some (.tuple vs))(hv:vs.toList[k]?=some v):(execOp a.eval o).run P w=.ok (.value v) w:=by
 unfold execOp;rw[hop]
 rw[A3r] at hv
 simp[F4 hx,Instr.extract,hv]
theorem run_isAgg{t:TypeId}(h:oneT P t=true):(isAgg t).run P w=.ok false w:=by
 unfold oneT at h
 cases hu:P.underlying t with
 | none=>simp[hu] at h
 | some d =>
  unfold isAgg
  rw[Sem.run_bind,run_underlying hu]
  cases d<;>simp_all
theorem A2e{t:TypeId}{b off:Nat}{cs:Array Value}{ty:TypeId}{fr:Nat × Nat}(h1:oneT P t=true)(hb:blk w b=some (.cells cs ty fr))(hv:cs[off]?=some v):(Instr.loadAt t (.pointer (some ⟨b,off,none⟩))).run P w=.ok v w:=by
 have hc:w.cell? ⟨b,off,none⟩=some v:=(cell_of_row w b off cs ty fr hb).trans hv
 unfold Instr.loadAt Instr.sureAddr loadVar
 simp[Sem.run_bind,run_isAgg h1,hc]
theorem A1c{t:TypeId}{x:Operand}{b off:Nat}{cs:Array Value}{ty:TypeId}{fr:Nat × Nat}(hop:o.op=.load t x)(hx:evO a x=some (.pointer (some ⟨b,off,none⟩)))(h1:OneT P t)(hb:blk w b=some (.cells cs ty fr))(hv:cs.toList[off]?=some v):(execOp a.eval o).run P w=.ok (.value v) w:=by
 unfold execOp;rw[hop]
 simp only[F4 hx,Sem.run_bind,A2e h1.is hb (by rw[<-A3r];exact hv)]
 rfl
theorem A0P{t:TypeId}{x:Operand}{n b off:Nat}{cs vs:Array Value}{ty:TypeId}{fr:Nat × Nat}(hop:o.op=.load t x)(hx:evO a x=some (.pointer (some ⟨b,off,none⟩)))(h1:RowT P t n)(hb:blk w b=some (.cells cs ty fr))(hn:off+n<=csz cs)(hv:cut cs off n=vs):(execOp a.eval o).run P w=.ok (.value (.agg vs)) w:=by
 unfold execOp;rw[hop]
 have hl:(loadVar t ⟨b,off,none⟩).run P w=.ok (.agg vs) w:=by
  have:=A0W h1.is b off w
  unfold loadVarR at this
  rw[if_pos rfl] at this
  rw[this]
  unfold loadedR
  rw[hb]
  simp only
  rw[if_pos hn,hv]
 simp only[F4 hx,Sem.run_bind,Instr.loadAt,Instr.sureAddr,Sem.run_pure,Result.andThen_ok,hl]
theorem elT_iff{t:TypeId}{m:Nat}(h:elT P t=some m):∃e,P.underlying t=some (.slice e)/\(P.info? e).map (·.size)=some m:=by
 unfold elT at h
 cases hu:P.underlying t with
 | none=>simp[hu] at h
 | some d =>
  cases d<;>simp[hu] at h
  exact⟨_,rfl,by simpa using h⟩
theorem Q7(b off k:Nat):(⟨b,off,none⟩:Addr).add k=⟨b,off+k,none⟩:=by unfold Addr.add;split<;>simp_all
theorem r_indexAddr{t:TypeId}{x y:Operand}{m b off n c q:Nat}{k:IntKind}{i:Int}(hop:o.op=.indexAddr t x y)(hx:evO a x=some (.slice (some ⟨b,off,none⟩) n c))(hy:evO a y=some (.int k i))(hm:ElT P t m)(h0:0<=i/\i<(n:Int))(hq:off+i.toNat*m=q) :
  (execOp a.eval o).run P w=.ok (.value (.pointer (some ⟨b,q,none⟩))) w:=by
 obtain⟨e,hu,hs⟩:=elT_iff hm.is
 unfold execOp;rw[hop]
 simp[F4 hx,F4 hy,Instr.indexAt,asIntOf,Sem.run_bind,run_underlying hu,h0.1,h0.2,J7 hs,Q7,hq]
theorem arT_iff{t:TypeId}{n m:Nat}(h:arT P t=some (n,m)):∃e,P.underlying t=some (.array n e)/\(P.info? e).map (·.size)=some m:=by
 unfold arT at h
 cases hu:P.underlying t with
 | none=>simp[hu] at h
 | some d =>
  cases d<;>simp[hu] at h
  obtain⟨i,h1,h2,h3⟩:=h
  subst h2
  exact⟨_,rfl,by rw[h1];simp[h3]⟩
theorem A2N{t:TypeId}{x y:Operand}{m b off n q:Nat}{k:IntKind}{i:Int}(hop:o.op=.indexAddr t x y)(hx:evO a x=some (.pointer (some ⟨b,off,none⟩)))(hy:evO a y=some (.int k i))(hm:ArT P t n m)(h0:0<=i/\i<(n:Int))(hq:off+i.toNat*m=q) :
  (execOp a.eval o).run P w=.ok (.value (.pointer (some ⟨b,q,none⟩))) w:=by
 obtain⟨e,hu,hs⟩:=arT_iff hm.is
 unfold execOp;rw[hop]
 simp[F4 hx,F4 hy,Instr.indexAt,Instr.sureAddr,asIntOf,Sem.run_bind,run_underlying hu,h0.1,h0.2,J7 hs,Q7,hq]
def fits(k:IntKind)(n:Int):Prop:=k.wrap n=n
theorem fits_i64{n:Int}(h : -9223372036854775808<=n/\n<=9223372036854775807):fits .i64 n:=IntWalk.i64_in n h
theorem r_add{t t':TypeId}{x y:Operand}{k:IntKind}{m n q:Int}(hop:o.op=.binOp .add t x y t')(hx:evO a x=some (.int k m))(hy:evO a y=some (.int k n))(hf:fits k (m+n))(hq:m+n=q):(execOp a.eval o).run P w=.ok (.value (.int k q)) w:=by
 unfold execOp;rw[hop];subst hq
 simp[F4 hx,F4 hy,eqGuard,binOp,Op.intArith,show k.wrap (m+n)=m+n from hf]
theorem r_sub{t t':TypeId}{x y:Operand}{k:IntKind}{m n q:Int}(hop:o.op=.binOp .sub t x y t')(hx:evO a x=some (.int k m))(hy:evO a y=some (.int k n))(hf:fits k (m - n))(hq:m - n=q):(execOp a.eval o).run P w=.ok (.value (.int k q)) w:=by
 unfold execOp;rw[hop];subst hq
 simp[F4 hx,F4 hy,eqGuard,binOp,Op.intArith,show k.wrap (m - n)=m - n from hf]
theorem r_mul{t t':TypeId}{x y:Operand}{k:IntKind}{m n q:Int}(hop:o.op=.binOp .mul t x y t')(hx:evO a x=some (.int k m))(hy:evO a y=some (.int k n))(hf:fits k (m*n))(hq:m*n=q):(execOp a.eval o).run P w=.ok (.value (.int k q)) w:=by
 unfold execOp;rw[hop];subst hq
 simp[F4 hx,F4 hy,eqGuard,binOp,Op.intArith,show k.wrap (m*n)=m*n from hf]
theorem r_quo{t t':TypeId}{x y:Operand}{k:IntKind}{m n q:Int}(hop:o.op=.binOp .quo t x y t')(hx:evO a x=some (.int k m))(hy:evO a y=some (.int k n))(h0:0<=m/\0<n)(hf:fits k (m / n))(hq:m / n=q):(execOp a.eval o).run P w=.ok (.value (.int k q)) w:=by
 unfold execOp;rw[hop];subst hq
 have h1:¬n=0:=by omega
 have h2:m.tdiv n=m / n:=Int.tdiv_eq_ediv_of_nonneg h0.1
 simp[F4 hx,F4 hy,eqGuard,binOp,Op.intDiv,h1,h2,show k.wrap (m / n)=m / n from hf]
theorem r_rem{t t':TypeId}{x y:Operand}{k:IntKind}{m n q:Int}(hop:o.op=.binOp .rem t x y t')(hx:evO a x=some (.int k m))(hy:evO a y=some (.int k n))(h0:0<=m/\0<n)(hq:m % n=q):(execOp a.eval o).run P w=.ok (.value (.int k q)) w:=by
 unfold execOp;rw[hop];subst hq
 have h1:¬n=0:=by omega
 have h2:m.tmod n=m % n:=Int.tmod_eq_emod_of_nonneg h0.1
 simp[F4 hx,F4 hy,eqGuard,binOp,Op.intDiv,h1,h2]
def cmpP:BinOp->Int->Int->Option Prop
 | .lss,x,y=>some (x<y)
 | .leq,x,y=>some (x<=y)
 | .gtr,x,y=>some (y<x)
 | .geq,x,y=>some (y<=x)
 | .eql,x,y=>some (x=y)
 | .neq,x,y=>some (¬x=y)
 | _,_,_=>none
theorem r_cmp{p:BinOp}{t t':TypeId}{x y:Operand}{k:IntKind}{m n:Int}{b:Bool}{A:Prop}(hop:o.op=.binOp p t x y t')(hx:evO a x=some (.int k m))(hy:evO a y=some (.int k n))(hp:cmpP p m n=some A)(hb:b=true↔A):(execOp a.eval o).run P w=.ok (.value (.bool b)) w:=by
 unfold execOp;rw[hop]
 have e:∀c:Bool,(c=true↔A)->c=b:=fun c hc=>by
  cases b<;>cases c<;>simp_all
 cases p<;>simp only[cmpP,Option.some.injEq,reduceCtorEq] at hp<;>subst hp <;>
  (simp only[F4 hx,F4 hy,Sem.run_bind,eqGuard,binOp,Op.intCmp];simp;refine e _ ?_;simp)
theorem r_cmp_t{p:BinOp}{t t':TypeId}{x y:Operand}{k:IntKind}{m n:Int}{A:Prop}(hop:o.op=.binOp p t x y t')(hx:evO a x=some (.int k m))(hy:evO a y=some (.int k n))(hp:cmpP p m n=some A)(hA:A):(execOp a.eval o).run P w=.ok (.value (.bool true)) w:=r_cmp hop hx hy hp (by simp[hA])
theorem r_cmp_f{p:BinOp}{t t':TypeId}{x y:Operand}{k:IntKind}{m n:Int}{A:Prop}(hop:o.op=.binOp p t x y t')(hx:evO a x=some (.int k m))(hy:evO a y=some (.int k n))(hp:cmpP p m n=some A)(hA:¬A):(execOp a.eval o).run P w=.ok (.value (.bool false)) w:=r_cmp hop hx hy hp (by simp[hA])
theorem s_cmp{p:BinOp}{t t':TypeId}{x y:Operand}{k:IntKind}{m n:Int}{A:Prop}(hs:Stp P ops W)(hw:Region.wanted o (yielded ops a.tmps)=true)(hop:o.op=.binOp p t x y t')(hx:evO a x=some (.int k m))(hy:evO a y=some (.int k n))(hp:cmpP p m n=some A)
  (ht:A->W rest (a.put o.dst (.bool true)) w)(hf:¬A->W rest (a.put o.dst (.bool false)) w):W (o::rest) a w:=by
 have hd:isDefer o=false:=by unfold isDefer;rw[hop]
 by_cases hA:A
 ·exact hs.go hw hd (r_cmp_t hop hx hy hp hA) (ht hA)
 ·exact hs.go hw hd (r_cmp_f hop hx hy hp hA) (hf hA)
theorem r_len{x:Operand}{t:TypeId}{p:Option Addr}{n c m:Nat}(hop:o.op=.call { callee:=.builtin .len,args:=#[x],argTypes:=#[t] })(hx:evO a x=some (.slice p n c))(hm:ElT P t m):(execOp a.eval o).run P w=.ok (.value (.int .i64 (n:Int))) w:=by
 obtain⟨e,hu,hs⟩:=elT_iff hm.is
 unfold execOp;rw[hop]
 simp[F4 hx,resolve,invoke,builtin,Builtin.len_,Sem.run_bind,run_underlying hu,goInt]
theorem r_cap{x:Operand}{t:TypeId}{p:Option Addr}{n c m:Nat}(hop:o.op=.call { callee:=.builtin .cap,args:=#[x],argTypes:=#[t] })(hx:evO a x=some (.slice p n c))(hm:ElT P t m):(execOp a.eval o).run P w=.ok (.value (.int .i64 (c:Int))) w:=by
 obtain⟨e,hu,hs⟩:=elT_iff hm.is
 unfold execOp;rw[hop]
 simp[F4 hx,resolve,invoke,builtin,Builtin.cap_,Sem.run_bind,run_underlying hu,goInt]
def bnd(a:Act)(d:Int):Option Operand->Option Int
 | none=>some d
 | some x=>match evO a x with|some (.int _ i)=>some i|_=>none
theorem Q0{k:IntKind}{i:Int}{y:Nat}{c:BoundsCode}(h:0<=i/\i<=(y:Int)):(Instr.sliceBound (.int k i) y c).run P w=.ok i.toNat w:=by
 simp[Instr.sliceBound,asIntOf,h.1,h.2]
theorem A0O{isS:Bool}{n c:Nat}{lo hi:Option Operand}{l h:Int}(hl:bnd a 0 lo=some l)(hh:bnd a n hi=some h)(h0:0<=l/\l<=h/\h<=(c:Int)) :
  (Instr.sliceBounds isS n c (lo.map a.eval) (hi.map a.eval) none).run P w=.ok (l.toNat,h.toNat,c) w:=by
 have e1:∀{c':BoundsCode}{d:Int}{x:Operand}{i:Int}{y:Nat},bnd a d (some x)=some i->0<=i/\i<=(y:Int)->(Instr.sliceBound (a.eval x) y c').run P w=.ok i.toNat w:=fun hx hi=>by
  simp only[bnd] at hx
  split at hx
  ·rename_i k j hj
   simp only[Option.some.injEq] at hx
   subst hx
   rw[F4 hj]
   exact Q0 hi
  ·cases hx
 have hh':h=(h.toNat:Int):=by omega
 unfold Instr.sliceBounds
 cases lo with
 | none =>
  simp only[bnd,Option.some.injEq] at hl
  subst hl
  cases hi with
  | none =>
   simp only[bnd,Option.some.injEq] at hh
   subst hh
   simp
  | some y=>simp[e1 hh ⟨by omega,h0.2.2⟩]
 | some x =>
  cases hi with
  | none =>
   simp only[bnd,Option.some.injEq] at hh
   subst hh
   simp[e1 hl ⟨h0.1,h0.2.1⟩]
  | some y =>
   have:=e1 (c':=.sliceB) (y:=h.toNat) hl ⟨h0.1,by omega⟩
   simp[Sem.run_bind,e1 hh ⟨by omega,h0.2.2⟩,this]
theorem r_slice{t:TypeId}{x:Operand}{lo hi:Option Operand}{b off n c m q n' c':Nat}{l h:Int}(hop:o.op=.slice t x lo hi none)(hx:evO a x=some (.slice (some ⟨b,off,none⟩) n c))(hm:ElT P t m)(hl:bnd a 0 lo=some l)(hh:bnd a n hi=some h)(h0:0<=l/\l<=h/\h<=(c:Int)/\(l<(c:Int)\/l=0))
  (hq:off+l.toNat*m=q)(hn:h.toNat - l.toNat=n')(hc:c - l.toNat=c'):(execOp a.eval o).run P w=.ok (.value (.slice (some ⟨b,q,none⟩) n' c')) w:=by
 obtain⟨e,hu,hs⟩:=elT_iff hm.is
 unfold execOp;rw[hop]
 have hb:=A0O (P:=P) (w:=w) (isS:=true) hl hh ⟨h0.1,h0.2.1,h0.2.2.1⟩
 have e1:(if c=l.toNat then some (⟨b,off,none⟩:Addr) else Option.map (fun x:Addr=>x.add (l.toNat*m)) (some ⟨b,off,none⟩))=some ⟨b,off+l.toNat*m,none⟩:=by
  by_cases hcl:c=l.toNat
  ·have:l=0:=by omega
   subst this
   simp only[A4G] at hcl |-
   rw[if_pos hcl,A4E,A4n]
  ·rw[if_neg hcl]
   simp[Q7]
 simp only[Option.map_none]
 simp only[F4 hx,Instr.sliceAt,Instr.slice,Sem.run_bind,run_underlying hu,Result.andThen_ok,hb,J7 hs,e1,hq,hn,hc]
 rfl
theorem r_sliceA{t:TypeId}{x:Operand}{lo hi:Option Operand}{b off n m q n' c':Nat}{l h:Int}(hop:o.op=.slice t x lo hi none)(hx:evO a x=some (.pointer (some ⟨b,off,none⟩)))(hm:ArT P t n m)(hl:bnd a 0 lo=some l)(hh:bnd a n hi=some h)(h0:0<=l/\l<=h/\h<=(n:Int)/\l<(n:Int))
  (hq:off+l.toNat*m=q)(hn:h.toNat - l.toNat=n')(hc:n - l.toNat=c'):(execOp a.eval o).run P w=.ok (.value (.slice (some ⟨b,q,none⟩) n' c')) w:=by
 obtain⟨e,hu,hs⟩:=arT_iff hm.is
 unfold execOp;rw[hop]
 have hb:=A0O (P:=P) (w:=w) (isS:=false) hl hh ⟨h0.1,h0.2.1,h0.2.2.1⟩
 have hcl:¬n=l.toNat:=by omega
 simp only[Option.map_none]
 simp only[F4 hx,Instr.sliceAt,Instr.sureAddr,Sem.run_bind,Sem.run_pure,run_underlying hu,Result.andThen_ok,hb,J7 hs,if_neg hcl,Q7,hq,hn,hc]
theorem s_newP(hs:Stp P ops W)(hH:Own B H)(hS:H w L)(hw:Region.wanted o (yielded ops a.tmps)=true)(hd:isDefer o=false){cs:Array Value}{t:TypeId}(hr:(execOp a.eval o).run P w=.ok (.value (.pointer (some ⟨w.heap.size,0,none⟩))) (w.alloc (.cells cs t)))
  (hk:∀(b:Nat)(w':World),H w' ((b,cs,t)::L)->W rest (a.put o.dst (.pointer (some ⟨b,0,none⟩))) w'):W (o::rest) a w :=
 hs.go hw hd hr (hk _ _ (hH.alloc cs t hS))
theorem s_newS(hs:Stp P ops W)(hH:Own B H)(hS:H w L)(hw:Region.wanted o (yielded ops a.tmps)=true)(hd:isDefer o=false){n c n' c':Nat}{cs cs':Array Value}{t:TypeId}(hr:(execOp a.eval o).run P w=.ok (.value (.slice (some ⟨w.heap.size,0,none⟩) n c)) (w.alloc (.cells cs t)))
  (hn:n=n')(hc:c=c')(hcs:cs=cs')(hk:∀(b:Nat)(w':World),H w' ((b,cs',t)::L)->W rest (a.put o.dst (.slice (some ⟨b,0,none⟩) n' c')) w'):W (o::rest) a w:=by
 subst hn hc hcs
 exact hs.go hw hd hr (hk _ _ (hH.alloc cs t hS))
theorem run_zero{t:TypeId}{cs:Array Value}(h:zeroT P t=some cs):∃z,(zeroValue t).run P w=.ok z w/\z.cells=cs:=by
 unfold zeroT at h
 cases hi:P.info? t with
 | none=>simp[hi] at h
 | some i =>
  cases hz:i.zero with
  | none=>simp[hi,hz] at h
  | some z =>
   simp[hi,hz] at h
   refine⟨z,?_,h⟩
   simp[zeroValue,Sem.run_bind,typeInfo,hi,hz]
theorem r_alloc{t:TypeId}{cs:Array Value}(hop:o.op=.alloc t)(hz:ZeroT P t cs):(execOp a.eval o).run P w=.ok (.value (.pointer (some ⟨w.heap.size,0,none⟩))) (w.alloc (.cells cs t)):=by
 obtain⟨z,h1,h2⟩:=run_zero (w:=w) hz.is
 unfold execOp;rw[hop]
 simp only[Instr.alloc,Sem.run_bind,h1,Result.andThen_ok,newVar,newRow,h2]
 rfl
theorem r_box{t:TypeId}{x:Operand}{cs:Array Value}(hop:o.op=.box t x)(hx:evO a x=some v)(hc:v.cells=cs):(execOp a.eval o).run P w=.ok (.value (.pointer (some ⟨w.heap.size,0,none⟩))) (w.alloc (.cells cs t)):=by
 unfold execOp;rw[hop]
 simp only[F4 hx,Instr.box,Sem.run_bind,newVar,newRow,hc]
 rfl
theorem run_store1{b off:Nat}{cs:Array Value}{ty t:TypeId}(h1:(P.info? t).map (·.size)=some 1)(hv:v.oneCell'=true)(hb:blk w b=some (.cells cs ty (0,0)))(ho:off<csz cs):(Instr.storeAt t (.pointer (some ⟨b,off,none⟩)) v).run P w=.ok () (w.setCell ⟨b,off,none⟩ v):=by
 have h:=N5 (P:=P) b off ty [v] 0 cs w hb (by simp only[A3D,A3S];unfold csz at ho;omega) (fun x hx=>by simp only[A4p] at hx;subst hx;exact hv)
 have hz:v.cells=#[v]:=by cases v<;>first|rfl|(simp[Value.oneCell'] at hv)
 unfold Instr.storeAt Instr.sureAddr storeVar
 simp only[Sem.run_bind,Sem.run_pure,Result.andThen_ok,hz,J7 h1]
 have e:(#[v]:Array Value).toList=[v]:=rfl
 simp only[A3R,A3D,A3S,ne_eq,not_true_eq_false,if_false]
 rw[setCell_eq_setRow w b off cs ty (0,0) v hb]
 have:splice cs off [v].toArray=cs.setIfInBounds off v:=by
  unfold splice
  apply Array.ext'
  have ho':off<cs.size:=ho
  apply A5d
  intro k
  simp only[Array.toList_setIfInBounds,List.getElem?_append,A3s,A4y,A3k,A4z,List.getElem?_set,A3D,A3S,A4f,A3R,A3r]
  by_cases hk:k<off
  ·simp[hk,show min off cs.size=off by omega,show off≠k by omega,show k<off+1 by omega]
  ·by_cases hk2:k=off
   ·subst hk2;simp[show min k cs.size=k by omega,ho']
   ·simp[show min off cs.size=off by omega,show ¬k<off+1 by omega,show off≠k by omega,show off+1+(k - (off+1))=k by omega]
 rw[<-this]
 simpa using h
theorem s_store1{t:TypeId}{x y:Operand}{b off:Nat}{cs:Array Value}{ty:TypeId}{L':List Blk}{i:Nat}(hs:Stp P ops W)(hH:Own B H)(hS:H w L)(hw:Region.wanted o (yielded ops a.tmps)=true)(hop:o.op=.store t x y)(hx:evO a x=some (.pointer (some ⟨b,off,none⟩)))(hy:evO a y=some v)
  (h1:OneT P t)(hv:v.oneCell'=true)(hi:L[i]?=some (b,cs,ty))(ho:off<csz cs)(hL:L.set i (b,cs.setIfInBounds off v,ty)=L')(hk:∀w',H w' L'->W rest (a.put o.dst undef) w'):W (o::rest) a w:=by
 have hr:(execOp a.eval o).run P w=.ok .skip (w.setCell ⟨b,off,none⟩ v):=by
  unfold execOp;rw[hop]
  simp only[F4 hx,F4 hy,Sem.run_bind,run_store1 h1.sz hv (hH.blk i hS hi) ho]
  rfl
 subst hL
 exact hs.mute hw D5 hr (hk _ (hH.setCell i off v hS hi))
theorem s_storeR{t:TypeId}{x y:Operand}{n b off:Nat}{cs vs cs':Array Value}{ty:TypeId}{L':List Blk}{i:Nat}(hs:Stp P ops W)(hH:Own B H)(hS:H w L)(hw:Region.wanted o (yielded ops a.tmps)=true)(hop:o.op=.store t x y)(hx:evO a x=some (.pointer (some ⟨b,off,none⟩)))(hy:evO a y=some (.agg vs))
  (h1:RowT P t n)(hn:csz vs=n)(hv:ones vs=true)(hi:L[i]?=some (b,cs,ty))(ho:off+n<=csz cs)(hc:paste cs off vs=cs')(hL:L.set i (b,cs',ty)=L')(hk:∀w',H w' L'->W rest (a.put o.dst undef) w'):W (o::rest) a w:=by
 have hb:=hH.blk i hS hi
 have hr:(execOp a.eval o).run P w=.ok .skip (w.setRow b cs'):=by
  unfold execOp;rw[hop]
  have h:=N5 (P:=P) b off ty vs.toList 0 cs w hb (by unfold csz at ho hn;simp;omega) (fun x hx=>by
   unfold ones at hv
   rw[Array.all_eq_true_iff_forall_mem] at hv
   exact hv x (by simpa using hx))
  have hsz:¬vs.size≠n:=by unfold csz at hn;simp[hn]
  simp only[F4 hx,F4 hy,Sem.run_bind,Instr.storeAt,Instr.sureAddr,storeVar,Sem.run_pure,Result.andThen_ok,Value.cells,J7 h1.sz,if_neg hsz]
  simp only[A4n] at h
  rw[h,<-hc]
  have e:splice cs off vs.toList.toArray=paste cs off vs:=by
   unfold paste
   split
   ·rename_i h2
    obtain⟨h3,h4⟩:=h2
    subst h3
    unfold csz at h4
    simp[splice,A3M (show cs.toList.length<=vs.size by simp;omega)]
   ·simp
  rw[e]
  rfl
 subst hL
 exact hs.mute hw D5 hr (hk _ (hH.setRow i cs' hS hi))
end
section
variable{P:Program}{ops:Array Oper}{W:List Oper->Act->World->Prop}{Q:Exit->Act->World->Prop}{o:Oper}{rest:List Oper}{a:Act}{w w':World}{v:Value}{B:Nat}{H:World->List Blk->Prop}{L:List Blk}
theorem A0S{f:FuncId}{args:Array Value}(h:isGo P f=true):(callFunc f args).run P w=.ok (.enter f args) w:=by
 unfold isGo at h
 cases hf:P.funcs[f]? with
 | none=>simp[hf] at h
 | some fn =>
  simp only[hf,A3A,bne_iff_ne,ne_eq] at h
  have h2:fn.body.isNone=false:=by
   cases hb:fn.body with
   | none=>simp[hb] at h
   | some c=>rfl
  unfold callFunc
  have hp:(program:Sem Program).run P w=.ok P w:=rfl
  simp only[Sem.run_bind,hp,Result.andThen_ok,hf]
  rw[if_neg (by simpa using h.1),if_neg (by rw[h2];decide)]
  rfl
theorem F7{x:Operand}{xs:Array Operand}{ts:Array TypeId}{f:FuncId}{first caps:Array Value}{vs:List Value}{args:Array Value}{R0:Ending->World->Prop}(hs:Stp P ops W)(hw:Region.wanted o (yielded ops a.tmps)=true)
  (hop:o.op=.call { callee:=.value x,args:=xs,argTypes:=ts })(hx:evO a x=some (.func (.func f) first caps))(hxs:evs a xs.toList=some vs)(hA:(first.toList++vs++caps.toList).toArray=args)(hf:GoF P f)(hc:Calls P f args w R0)
  (hk:∀e w',R0 e w'->∃v,e=.returned v/\W rest (a.put o.dst v) w'):W (o::rest) a w:=by
 have hr:(execOp a.eval o).run P w=.ok (.enter f args) w:=by
  unfold execOp;rw[hop]
  have e1:xs.map a.eval=vs.toArray:=by
   have:=X8 hxs
   apply Array.ext'
   simp[this]
  have e2:first++xs.map a.eval++caps=args:=by
   rw[e1,<-hA]
   apply Array.ext'
   simp
  simp only[resolve,F4 hx,Deferred.ofValue,Sem.run_bind,Sem.run_pure,Result.andThen_ok,invoke,e2]
  exact A0S hf.is
 exact hs.enter hw D5 hr (hc.mono hk) (fun v w'' h=>h)
theorem s_callq{x:Operand}{xs:Array Operand}{ts:Array TypeId}{f:FuncId}{first caps:Array Value}{vs:List Value}{args:Array Value}{v:Value}(hs:Stp P ops W)(hH:Own B H)(hS:H w L)(hw:Region.wanted o (yielded ops a.tmps)=true)
  (hop:o.op=.call { callee:=.value x,args:=xs,argTypes:=ts })(hx:evO a x=some (.func (.func f) first caps))(hxs:evs a xs.toList=some vs)(hA:(first.toList++vs++caps.toList).toArray=args)(hf:GoF P f)(hc:Calls P f args w fun e w'=>e=.returned v/\Below w.heap.size w w')
  (hk:∀w',H w' L->W rest (a.put o.dst v) w'):W (o::rest) a w :=
 F7 hs hw hop hx hxs hA hf hc fun _e w' h=>⟨v,h.1,hk w' (hH.call hS h.2)⟩
theorem G6(h:wpList P ops Q (o::rest) a w):wpList P ops Q (o::rest) a w:=h
theorem R4{F:Fence}{n:Nat}(h:wpListIn F n P ops Q (o::rest) a w):wpListIn F n P ops Q (o::rest) a w:=h
end
theorem S9{n:Int}(h:0<=n/\n<=18446744073709551615):fits .u64 n:=IntWalk.u64_in n h
theorem X6{n:Int}(h:0<=n/\n<=255):fits .u8 n:=IntWalk.u8_in n h
section
variable{P:Program}{ops:Array Oper}{W:List Oper->Act->World->Prop}{o:Oper}{rest:List Oper}{a:Act}{w w':World}{v:Value}{B:Nat}{H:World->List Blk->Prop}{L:List Blk}
theorem fldT_iff{s k off n t:Nat}(h:fldT P s k=some (off,n,t)):∃fs f,P.underlying s=some (.struct fs)/\fs[k]?=some f/\f.offset=off/\f.type=t/\(P.info? t).map (·.size)=some n/\¬n=0:=by
 unfold fldT at h
 cases hu:P.underlying s with
 | none=>simp[hu] at h
 | some d =>
  cases d<;>simp[hu] at h
  rename_i fs
  cases hf:fs[k]? with
  | none=>simp[hf] at h
  | some f =>
   simp[hf] at h
   cases hi:P.info? f.type with
   | none=>simp[hi] at h
   | some i =>
    simp[hi] at h
    obtain⟨h0,h1,h2,h3⟩:=h
    exact⟨fs,f,rfl,hf,h1,h3,by rw[<-h3,hi];simp[h2],by omega⟩
theorem r_fieldAddr{s:TypeId}{x:Operand}{k b off fo n q:Nat}(hop:o.op=.fieldAddr s x k)(hx:evO a x=some (.pointer (some ⟨b,off,none⟩)))(hf:FldT P s k fo n)(hq:off+fo=q):(execOp a.eval o).run P w=.ok (.value (.pointer (some ⟨b,q,none⟩))) w:=by
 obtain⟨t,ht⟩:=hf.is
 obtain⟨fs,f,hu,hk,h1,h2,h3,h4⟩:=fldT_iff ht
 unfold execOp;rw[hop]
 subst h2
 simp only[F4 hx,Instr.fieldAt,Instr.sureAddr,Sem.run_bind,Sem.run_pure,run_underlying hu,Result.andThen_ok,hk,fieldPlace,J7 h3,if_neg h4,Q7,h1,hq]
theorem r_makeInterface{t:TypeId}{x:Operand}(hop:o.op=.makeInterface t x)(hx:evO a x=some v)(hi:IfaceT P t):(execOp a.eval o).run P w=.ok (.value (.iface t v)) w:=by
 have h:=hi.is
 unfold execOp;rw[hop]
 cases hu:P.underlying t with
 | none=>simp[hu] at h
 | some d =>
  simp only[F4 hx,Instr.makeInterface,Sem.run_bind,run_underlying hu,Result.andThen_ok]
  cases d<;>simp_all<;>rfl
theorem r_makeFunc{fn:Fn}{first caps:Array Operand}{fs cs:List Value}(hop:o.op=.makeFunc fn first caps)(hf:evs a first.toList=some fs)(hc:evs a caps.toList=some cs):(execOp a.eval o).run P w=.ok (.value (.func fn fs.toArray cs.toArray)) w:=by
 unfold execOp;rw[hop]
 have e1:first.map a.eval=fs.toArray:=Array.ext' (by simp[X8 hf])
 have e2:caps.map a.eval=cs.toArray:=Array.ext' (by simp[X8 hc])
 simp only[e1,e2,Instr.makeFunc]
 rfl
theorem r_neqNil{t t':TypeId}{x:Operand}{u:TypeId}{y:Value}(hop:o.op=.binOp .neq t x (.const .nilIface) t')(hx:evO a x=some (.iface u y))(hi:IfT P t):(execOp a.eval o).run P w=.ok (.value (.bool true)) w:=by
 unfold execOp;rw[hop]
 simp only[F4 hx,show a.eval (.const .nilIface)=.nilIface from rfl,Sem.run_bind]
 have hg:(eqGuard .neq t x (.const .nilIface) (.iface u y) .nilIface).run P w=.ok () w:=by unfold eqGuard;rfl
 simp only[hg,Result.andThen_ok,run_neq_held_nil _ t u y hi.is]
 rfl
theorem r_neqNil0{t t':TypeId}{x:Operand}(hop:o.op=.binOp .neq t x (.const .nilIface) t')(hx:evO a x=some .nilIface)(hi:IfT P t):(execOp a.eval o).run P w=.ok (.value (.bool false)) w:=by
 unfold execOp;rw[hop]
 simp only[F4 hx,show a.eval (.const .nilIface)=.nilIface from rfl,Sem.run_bind]
 have hg:(eqGuard .neq t x (.const .nilIface) .nilIface .nilIface).run P w=.ok () w:=by unfold eqGuard;cases x<;>rfl
 simp only[hg,Result.andThen_ok,run_neq_nil_nil _ t hi.is]
 rfl
theorem r_eqlNil{t t':TypeId}{x:Operand}{u:TypeId}{y:Value}(hop:o.op=.binOp .eql t x (.const .nilIface) t')(hx:evO a x=some (.iface u y))(hi:IfT P t):(execOp a.eval o).run P w=.ok (.value (.bool false)) w:=by
 unfold execOp;rw[hop]
 simp only[F4 hx,show a.eval (.const .nilIface)=.nilIface from rfl,Sem.run_bind]
 have hg:(eqGuard .eql t x (.const .nilIface) (.iface u y) .nilIface).run P w=.ok () w:=by unfold eqGuard;rfl
 simp only[hg,Result.andThen_ok,run_eql_held_nil _ t u y hi.is]
 rfl
theorem r_eqlNil0{t t':TypeId}{x:Operand}(hop:o.op=.binOp .eql t x (.const .nilIface) t')(hx:evO a x=some .nilIface)(hi:IfT P t):(execOp a.eval o).run P w=.ok (.value (.bool true)) w:=by
 unfold execOp;rw[hop]
 simp only[F4 hx,show a.eval (.const .nilIface)=.nilIface from rfl,Sem.run_bind]
 have hg:(eqGuard .eql t x (.const .nilIface) .nilIface .nilIface).run P w=.ok () w:=by unfold eqGuard;cases x<;>rfl
 simp only[hg,Result.andThen_ok,run_eql_nil_nil _ t hi.is]
 rfl
end
section
variable{P:Program}{o:Oper}{a:Act}{w:World}{v:Value}{C:World->Prop}
theorem I9(h:(execOp a.eval o).run P w=.ok (.value v) w):o.quietAt P a C w v:=by
 unfold Oper.quietAt
 rw[h]
 exact⟨rfl,rfl⟩
theorem q_call{x:Operand}{xs:Array Operand}{ts:Array TypeId}{f:FuncId}{first caps:Array Value}{vs:List Value}{args:Array Value}
  (hop:o.op=.call { callee:=.value x,args:=xs,argTypes:=ts })(hx:evO a x=some (.func (.func f) first caps))(hxs:evs a xs.toList=some vs)(hA:(first.toList++vs++caps.toList).toArray=args)(hf:GoF P f)(hc:Calls P f args w fun e w'=>e=.returned v/\C w'):o.quietAt P a C w v:=by
 have hr:(execOp a.eval o).run P w=.ok (.enter f args) w:=by
  unfold execOp;rw[hop]
  have e1:xs.map a.eval=vs.toArray:=by
   have:=X8 hxs
   apply Array.ext'
   simp[this]
  have e2:first++xs.map a.eval++caps=args:=by
   rw[e1,<-hA]
   apply Array.ext'
   simp
  simp only[resolve,F4 hx,Deferred.ofValue,Sem.run_bind,Sem.run_pure,Result.andThen_ok,invoke,e2]
  exact A0S hf.is
 unfold Oper.quietAt
 rw[hr]
 exact⟨rfl,hc⟩
end
section
variable{P:Program}{ops:Array Oper}{W:List Oper->Act->World->Prop}{o:Oper}{rest:List Oper}{a:Act}{w:World}{v:Value}{B:Nat}{H:World->List Blk->Prop}{L:List Blk}
theorem X0{x:Operand}{xs:Array Operand}{ts:Array TypeId}{f:FuncId}{first caps:Array Value}{vs:List Value}{args cs cs' cs2:Array Value}{b i:Nat}{t:TypeId}{L':List Blk}(hs:Stp P ops W)(hH:Own B H)(hS:H w L)(hw:Region.wanted o (yielded ops a.tmps)=true)
  (hop:o.op=.call { callee:=.value x,args:=xs,argTypes:=ts })(hx:evO a x=some (.func (.func f) first caps))(hxs:evs a xs.toList=some vs)(hA:(first.toList++vs++caps.toList).toArray=args)(hf:GoF P f)
  (hc:Calls P f args w fun e w'=>e=.returned v/\w'=w.setRow b cs')(hi:L[i]?=some (b,cs,t))(hcs:cs'=cs2)(hL:L.set i (b,cs2,t)=L')(hk:∀w',H w' L'->W rest (a.put o.dst v) w'):W (o::rest) a w :=
 F7 hs hw hop hx hxs hA hf hc fun e w' h=>⟨v,h.1,hk w' (by rw[h.2,<-hL,<-hcs];exact hH.setRow i cs' hS hi)⟩
theorem Q9{d s:Operand}{dT sT:TypeId}{b off n c i:Nat}{cs cs2:Array Value}{t:TypeId}{sv:Value}{l:List UInt8}{L':List Blk}{q:Int}(hs:Stp P ops W)(hH:Own B H)(hS:H w L)(hw:Region.wanted o (yielded ops a.tmps)=true)
  (hop:o.op=.call { callee:=.builtin .copy,args:=#[d,s],argTypes:=#[dT,sT] })(hd:evO a d=some (.slice (some ⟨b,off,none⟩) n c))(hy:evO a s=some sv)(hm:ElT P dT 1)(hi:L[i]?=some (b,cs,t))(hv:BytesAt w sv l)(hfit:off+(l.take n).length<=csz cs)
  (hcs:ovw cs off (l.take n)=cs2)(hL:L.set i (b,cs2,t)=L')(hq:((l.take n).length:Int)=q)(hk:∀w',H w' L'->W rest (a.put o.dst (.int .i64 q)) w'):W (o::rest) a w:=by
 obtain⟨e,hu,hsz⟩:=elT_iff hm.is
 have hrun:=run_copy_bytes (P:=P) w dT sT o.type e hu hsz (dCap:=c) (dLen:=n) (hH.blk i hS hi) hv hfit
 subst hq hL hcs
 refine hs.go hw D5 ?_ (hk _ (hH.setRow i _ hS hi))
 unfold execOp;rw[hop]
 simp only[resolve,Sem.run_bind,Sem.run_pure,Result.andThen_ok,invoke,builtin]
 have e1 : #[d,s].map a.eval=#[.slice (some ⟨b,off,none⟩) n c,sv]:=by simp[F4 hd,F4 hy]
 rw[e1,hrun]
 rfl
end
theorem A0N{P:Program}{ops:Array Oper}{Q:Exit->Act->World->Prop}{o:Oper}{rest:List Oper}{a:Act}{w:World}{x:Operand}{xs:Array Operand}{ts:Array TypeId}{l n:Nat}{vs:List Value}{args:Array Value}{R:Ending->World->Prop}
  (hw:Region.wanted o (yielded ops a.tmps)=true)(hop:o.op=.call { callee:=.value x,args:=xs,argTypes:=ts })(hx:evO a x=some (.func (.yield l) #[] #[]))(hxs:evs a xs.toList=some vs)(hA:vs.toArray=args)(hY:YieldAt Fence.wide 0 P l args w R)
  (hk:∀e w',R e w'->∃v,e=.returned v/\wpListIn Fence.wide n P ops Q rest (a.put o.dst v) w'):wpListIn Fence.wide n P ops Q (o::rest) a w:=by
 obtain⟨fn,tmps,assign,body,hy,hRo⟩:=hY
 have hr:(execOp a.eval o).run P w=.ok (.round l fn tmps assign body) w:=by
  unfold execOp;rw[hop]
  have e1:xs.map a.eval=args:=by
   have:=X8 hxs
   rw[<-hA]
   apply Array.ext'
   simp[this]
  have e2 : #[]++xs.map a.eval=args:=by rw[e1];apply Array.ext';simp
  simp only[resolve,F4 hx,Deferred.ofValue,Sem.run_bind,Sem.run_pure,Result.andThen_ok,invoke,e2,hy]
 unfold wpListIn
 rw[if_pos hw]
 unfold Oper.wpIn
 refine⟨fun _ _=>trivial,?_⟩
 rw[Oper.semAt_plain _ _ _ (by rw[hop];intro c hc;cases hc),hr,Oper.uponIn_round]
 refine⟨fun h=>(by cases h),?_⟩
 have hRo':RoundIn Fence.wide (n - 1) P l fn tmps assign body w R:=⟨trivial,fun c cs _=>hRo.2 c cs (room_wide _)⟩
 refine hRo'.mono ?_
 intro e w' hR
 obtain⟨v,rfl,h⟩:=hk e w' hR
 exact h
section
variable{P:Program}{ops:Array Oper}{W:List Oper->Act->World->Prop}{o:Oper}{rest:List Oper}{a:Act}{w:World}{v:Value}{B:Nat}{H:World->List Blk->Prop}{L:List Blk}
theorem A0T{x y:Operand}{t:TypeId}{v1 v2:Value}{w':World}(hop:o.op=.call { callee:=.builtin .append,args:=#[x,y],argTypes:=#[t,t] })(hx:evO a x=some v1)(hy:evO a y=some v2)(h:(Builtin.append_ #[t,t] o.type #[v1,v2]).run P w=.ok v w') :
  (execOp a.eval o).run P w=.ok (.value v) w':=by
 unfold execOp;rw[hop]
 have e1 : #[x,y].map a.eval=#[v1,v2]:=by simp[F4 hx,F4 hy]
 simp only[resolve,Sem.run_bind,Sem.run_pure,Result.andThen_ok,invoke,builtin,e1,h]
theorem J9{x y:Operand}{t e size bytes b n c m c2 i nm:Nat}{q:Addr}{cs:Array Value}{olds spare xs:List Value}(hs:Stp P ops W)(hH:Own B H)(hS:H w L)(hw:Region.wanted o (yielded ops a.tmps)=true)
  (hop:o.op=.call { callee:=.builtin .append,args:=#[x,y],argTypes:=#[t,t] })(hx:evO a x=some (.slice (some ⟨b,0,none⟩) n c))(hy:evO a y=some (.slice (some q) m c2))(hT:SlT P t e size bytes)
  (hi:L[i]?=some (b,cs,e))(hcs:cs.toList=olds++spare)(ho:olds.length=n*size)(hnc:n<=c)(hsp:spare.length=(c - n)*size)(hsrc:∀j v,xs[j]?=some v->w.cell? (q.add j)=some v)(hxs:xs.length=m*size)(hone:∀v∈xs,v.oneCell'=true)
  (hmax:n+m<=maxLen/\(n+m)*bytes<=140737488355328/\c<=maxLen)(hnm:n+m=nm)
  (hk:∀(b' c':Nat)(spare':List Value)(w':World),nm<=c'->c'<=maxLen->spare'.length=(c' - nm)*size->H w' ((b',(olds++xs++spare').toArray,e)::L.eraseIdx i)->W rest (a.put o.dst (.slice (some ⟨b',0,none⟩) nm c')) w'):W (o::rest) a w:=by
 subst hnm
 obtain⟨ht,inf,z,hie,hz,hsz,hby,hzs,hpos⟩:=elemB_iff hT.is
 have hd:isDefer o=false:=by unfold isDefer;rw[hop]
 have hb:=hH.blk i hS hi
 have hcsz:cs.size=olds.length+spare.length:=by rw[<-A4y,hcs,A3k]
 by_cases hroom:n+m<=c
 ·have hfit:n*inf.size+xs.length<=cs.size:=by
   rw[hcsz,hsz,ho,hsp,hxs]
   have:m*size<=(c - n)*size:=Nat.mul_le_mul_right _ E9
   omega
  have hr:=run_append_room (P:=P) w t o.type e inf ht hie b n c cs hb q m c2 xs (by rw[hsz];exact hxs) hsrc hone hroom hfit
  refine hs.go hw hd (A0T hop hx hy hr) ?_
  have hrow:(cs.toList.take (n*inf.size)++xs++cs.toList.drop (n*inf.size+xs.length)).toArray=(olds++xs++spare.drop xs.length).toArray:=by
   rw[hcs,hsz,<-ho,List.take_left,A4U,A4e,A3M E9,A3q]
  rw[hrow]
  have h1:=hH.setRow i (olds++xs++spare.drop xs.length).toArray hS hi
  have hil:i<L.length:=(A3n.1 hi).1
  have h2:=hH.front h1 (i:=i) (x:=(b,(olds++xs++spare.drop xs.length).toArray,e)) (by rw[List.getElem?_set_self hil])
  rw[List.eraseIdx_set_eq] at h2
  refine hk b c _ _ hroom hmax.2.2 ?_ h2
  rw[A3H,hsp,hxs,<-Nat.sub_mul]
  congr 1;omega
 ·have hr:=run_append_grow (P:=P) (w:=w) t o.type e inf z ht hie hz ⟨b,0,none⟩ n c olds (by rw[hsz];exact ho) (fun j u hu=>by
   rw[Q7,A3x]
   refine(cell_of_row w b j cs e _ hb).trans ?_
   rw[<-A3r,hcs,A3E (A3n.1 hu).1,hu]) q m c2 xs (by rw[hsz];exact hxs) hsrc E9 (by have:=hmax.1;unfold maxLen at this;omega) (growslice_fits E9 (by rw[hby];exact hmax.2.1))
  have hcap:=grownCap_ge w (n+m) c e
  have hcm:=grownCap_le_maxLen w (n+m) c e hmax.1
  refine hs.go hw hd (A0T hop hx hy hr) ?_
  generalize grownCap w (n+m) c e=c' at *
  have hcell:olds.toArray++xs.toArray++Builtin.zeroCells z.cells (c' - (n+m))=(olds++xs++(Builtin.zeroCells z.cells (c' - (n+m))).toList).toArray:=by
   apply Array.ext';simp
  rw[hcell]
  have hS1:H w.drew L:=hH.call hS ⟨rfl,rfl,rfl,A3t _,fun _ _=>rfl⟩
  have h2:=hH.alloc (olds++xs++(Builtin.zeroCells z.cells (c' - (n+m))).toList).toArray e hS1
  have hil:i<L.length:=(A3n.1 hi).1
  have h3:=hH.sub (L':=(w.drew.heap.size,(olds++xs++(Builtin.zeroCells z.cells (c' - (n+m))).toList).toArray,e)::L.eraseIdx i) h2 (fun y hy=>by
   rcases A3G.1 hy with rfl|hy
   ·exact A3m ..
   ·exact A3l _ (A5v hy)) (by
   have hn:=hH.nodup h2
   simp only[A3X,A4a] at hn |-
   exact⟨fun hm=>hn.1 (by
    obtain⟨y,hy,he⟩:=A3C.1 hm
    exact A3C.2 ⟨y,A5v hy,he⟩),(hn.2.sublist ((List.eraseIdx_sublist L i).map _))⟩)
  refine hk _ c' _ _ hcap hcm ?_ h3
  rw[A4y,size_zeroCells,hzs]
theorem Z6{x y:Operand}{t e size bytes m c2:Nat}{q:Addr}{xs:List Value}(hs:Stp P ops W)(hH:Own B H)(hS:H w L)(hw:Region.wanted o (yielded ops a.tmps)=true)
  (hop:o.op=.call { callee:=.builtin .append,args:=#[x,y],argTypes:=#[t,t] })(hx:evO a x=some (.slice none 0 0))(hy:evO a y=some (.slice (some q) m c2))(hT:SlT P t e size bytes)
  (hsrc:∀j v,xs[j]?=some v->w.cell? (q.add j)=some v)(hxs:xs.length=m*size)(hmax:0<m/\m<=maxLen/\m*bytes<=140737488355328)
  (hk:∀(b' c':Nat)(spare':List Value)(w':World),m<=c'->c'<=maxLen->spare'.length=(c' - m)*size->H w' ((b',(xs++spare').toArray,e)::L)->W rest (a.put o.dst (.slice (some ⟨b',0,none⟩) m c')) w'):W (o::rest) a w:=by
 obtain⟨ht,inf,z,hie,hz,hsz,hby,hzs,hpos⟩:=elemB_iff hT.is
 have hd:isDefer o=false:=by unfold isDefer;rw[hop]
 have hr:=run_append_nil (P:=P) (w:=w) t o.type e inf z ht hie hz q m c2 xs (by rw[hsz];exact hxs) hsrc hmax.1 (by have:=hmax.2.1;unfold maxLen at this;omega) (by rw[hby];omega)
 have hcap:=grownCap_ge w m 0 e
 have hcm:=grownCap_le_maxLen w m 0 e hmax.2.1
 refine hs.go hw hd (A0T hop hx hy hr) ?_
 generalize grownCap w m 0 e=c' at *
 have hcell:xs.toArray++Builtin.zeroCells z.cells (c' - m)=(xs++(Builtin.zeroCells z.cells (c' - m)).toList).toArray:=by
  apply Array.ext';simp
 rw[hcell]
 have hS1:H w.drew L:=hH.call hS ⟨rfl,rfl,rfl,A3t _,fun _ _=>rfl⟩
 refine hk _ c' _ _ hcap hcm ?_ (hH.alloc _ e hS1)
 rw[A4y,size_zeroCells,hzs]
theorem L9{b off:Nat}{cs:Array Value}{t:TypeId}{fr:Nat × Nat}{xs:List Value}(hb:blk w b=some (.cells cs t fr))(hc:∀j v,xs[j]?=some v->cs.toList[off+j]?=some v):∀j v,xs[j]?=some v->w.cell? ((⟨b,off,none⟩:Addr).add j)=some v:=by
 intro j u hu
 rw[Q7]
 exact(cell_of_row w b (off+j) cs t fr hb).trans (by rw[<-A3r];exact hc j u hu)
end
section
variable{P:Program}{ops:Array Oper}{W:List Oper->Act->World->Prop}{o:Oper}{rest:List Oper}{a:Act}{w:World}{v:Value}{B:Nat}{H:World->List Blk->Prop}{L:List Blk}
def evi(a:Act):Nat->List (Nat × Operand)->Option (List Value)
 | _,[]=>some []
 | k,(i,x)::l=>if i=k then (match evO a x,evi a (k+1) l with
  | some v,some vs=>some (v::vs)
  | _,_=>none) else none
theorem evi_eval{a:Act}:∀{l:List (Nat × Operand)}{k:Nat}{vs:List Value},evi a k l=some vs->l.map (fun y=>(y.1,a.eval y.2))=(vs.zipIdx k).map fun x=>(x.2,x.1)
 | [],k,vs,h=>by simp only[evi,Option.some.injEq] at h;subst h;rfl
 | (i,x)::l,k,vs,h=>by
  simp only[evi] at h
  split at h
  ·rename_i hi
   subst hi
   split at h
   ·rename_i v vs' h1 h2
    simp only[Option.some.injEq] at h
    subst h
    simp only[A3X,F4 h1,evi_eval h2,List.zipIdx_cons]
   ·cases h
  ·cases h
theorem evi_len{a:Act}:∀{l:List (Nat × Operand)}{k:Nat}{vs:List Value},evi a k l=some vs->vs.length=l.length
 | [],k,vs,h=>by simp only[evi,Option.some.injEq] at h;subst h;rfl
 | (i,x)::l,k,vs,h=>by
  simp only[evi] at h
  split at h
  ·split at h
   ·rename_i v vs' h1 h2
    simp only[Option.some.injEq] at h
    subst h
    simp only[A3D,evi_len h2]
   ·cases h
  ·cases h
theorem Q3{t e size bytes len:Nat}{parts:Array (Nat × Operand)}{vs:List Value}{cells:List Value}(hop:o.op=.buildSlice t len parts)(hp:evi a 0 parts.toList=some vs)(hT:SlT P t e size bytes)(hl:parts.toList.length=len)(h1:∀v∈vs,v.cells.size=size)(hc:(vs.flatMap fun v=>v.cells.toList)=cells)(hlen:len*size<=2 ^ 24)(hpos:0<len) :
  (execOp a.eval o).run P w=.ok (.value (.slice (some ⟨w.heap.size,0,none⟩) len len)) (w.alloc (.cells cells.toArray e)):=by
 obtain⟨ht,inf,z,hie,hz2,hsz,hby,hzs,hps⟩:=elemB_iff hT.is
 have hvl:vs.length=len:=by rw[evi_len hp,hl]
 unfold execOp;rw[hop]
 have e1:(parts.map fun (i,x)=>(i,a.eval x)).toList=(vs.zipIdx 0).map fun x=>(x.2,x.1):=by
  rw[Array.toList_map]
  exact evi_eval hp
 have hne:¬len*inf.size=0:=by rw[hsz];exact Nat.ne_of_gt (Nat.mul_pos hpos hps)
 have hf:=Great.fill_whole hps vs ((Array.range (len*size)).map (z.cells[· % z.cells.size]!)) h1 (by simp[hvl])
 have hr:=Go.run_buildSlice (P:=P) w t e len (parts.map fun (i,x)=>(i,a.eval x)) _ inf z ht hie hz2 (by rw[hsz];omega) hne (by rw[e1,hsz];exact hf)
 simp only[Sem.run_bind,hr,Result.andThen_ok]
 subst hc
 rfl
theorem r_buildSlice0{t e size bytes:Nat}(hop:o.op=.buildSlice t 0 #[])(hT:SlT P t e size bytes) :
  (execOp a.eval o).run P w=.ok (.value (.slice (some ⟨w.heap.size,0,none⟩) 0 0)) (w.alloc (.cells #[] e)):=by
 obtain⟨ht,inf,z,hie,hz2,hsz,hby,hzs,hps⟩:=elemB_iff hT.is
 unfold execOp;rw[hop]
 simp[Instr.buildSlice,Sem.run_bind,run_underlying ht,sizeOf,typeInfo,hie,newRow,Instr.fill]
 congr 2
 apply Array.ext';simp
theorem r_eqlSlNil{t t' e size bytes:Nat}{x:Operand}{p:Option Addr}{n c:Nat}(hop:o.op=.binOp .eql t x (.const (.slice none 0 0)) t')(hx:evO a x=some (.slice p n c))(hT:SlT P t e size bytes):(execOp a.eval o).run P w=.ok (.value (.bool p.isNone)) w:=by
 obtain⟨ht,_⟩:=elemB_iff hT.is
 unfold execOp;rw[hop]
 have hg:(eqGuard .eql t x (.const (.slice none 0 0)) (.slice p n c) (.slice none 0 0)).run P w=.ok () w:=by unfold eqGuard;rfl
 simp only[F4 hx,show a.eval (.const (.slice none 0 0))=.slice none 0 0 from rfl,Sem.run_bind,hg,Result.andThen_ok,Lib.run_eql_slice_nil w t e p n c 0 0 ht]
 rfl
theorem r_makeBytes{t e:Nat}{x y:Operand}{k k':IntKind}{n c:Int}(hop:o.op=.makeSlice t x y)(hx:evO a x=some (.int k n))(hy:evO a y=some (.int k' c))(hT:SlT P t e 1 1)(hz:ZeroT P e #[.int .u8 0])(h:0<=n/\n<=c/\c<=140737488355328) :
  (execOp a.eval o).run P w=.ok (.value (.slice (some ⟨w.heap.size,0,none⟩) n.toNat c.toNat)) (w.alloc (.cells (bvs (zs c.toNat)) e)):=by
 obtain⟨ht,inf,z,hie,hz1,hsz,hby,_⟩:=elemB_iff hT.is
 have hz2:z.cells=#[.int .u8 0]:=by
  have:=hz.is
  unfold zeroT at this
  simp[hie,hz1] at this
  exact this
 have hr:=run_make (P:=P) w t e inf z ht hie hz1 k k' n c h.1 h.2.1 (by rw[hby];omega) E9
 unfold execOp;rw[hop]
 simp only[F4 hx,F4 hy,Sem.run_bind,hr,hsz,A4j,hz2,Result.andThen_ok]
 have:=made_noughts c.toNat
 have e2:(Value.int .u8 0).cells=#[.int .u8 0]:=rfl
 rw[e2] at this
 rw[this]
 rfl
end
section
variable{P:Program}{ops:Array Oper}{W:List Oper->Act->World->Prop}{o:Oper}{rest:List Oper}{a:Act}{w:World}{v:Value}{B:Nat}{H:World->List Blk->Prop}{L:List Blk}
theorem r_sliceNil{t:TypeId}{x:Operand}{lo hi:Option Operand}{m:Nat}(hop:o.op=.slice t x lo hi none)(hx:evO a x=some (.slice none 0 0))(hm:ElT P t m)(hl:bnd a 0 lo=some 0)(hh:bnd a 0 hi=some 0):(execOp a.eval o).run P w=.ok (.value (.slice none 0 0)) w:=by
 obtain⟨e,hu,hs⟩:=elT_iff hm.is
 unfold execOp;rw[hop]
 have hb:=A0O (P:=P) (w:=w) (isS:=true) (n:=0) (c:=0) hl hh ⟨by omega,by omega,by omega⟩
 simp only[Option.map_none]
 simp only[F4 hx,Instr.sliceAt,Instr.slice,Sem.run_bind,run_underlying hu,Result.andThen_ok,hb,J7 hs]
 rfl
theorem Q6(n:Nat):Builtin.zeroCells (Value.int .u8 0).cells n=bvs (zs n):=by
 apply A4N
 intro i
 by_cases h:i<n
 ·rw[zs_one n i h]
  have e:i % (Value.int .u8 0).cells.size=0:=by show i % 1=0;omega
  have hs:i<n*(Value.int .u8 0).cells.size:=by show i<n*1;omega
  unfold Builtin.zeroCells
  rw[Array.getElem?_map,Array.getElem?_range,if_pos hs]
  simp only[A4I]
  rw[e];rfl
 ·rw[A4v (by rw[size_zeroCells];show n*1<=i;omega),A4v (by rw[A1l,zs_len];omega)]
theorem A2d{x y:Operand}{t tn e n:Nat}{k kn:IntKind}(hs:Stp P ops W)(hH:Own B H)(hS:H w L)(hw:Region.wanted o (yielded ops a.tmps)=true)
  (hop:o.op=.call { callee:=.builtin .append,args:=#[x,y],argTypes:=#[t,tn] })(hx:evO a x=some (.slice none 0 0))(hy:evO a y=some (.int k (n:Int)))(hT:SlT P t e 1 1)(hz:ZeroT P e #[.int .u8 0])(htn:P.underlying tn=some (.int kn))(hn:0<n/\n<=1000000000)
  (hk:∀(b' c':Nat)(w':World),n<=c'->c'<=maxLen->H w' ((b',bvs (zs c'),e)::L)->W rest (a.put o.dst (.slice (some ⟨b',0,none⟩) n c')) w'):W (o::rest) a w:=by
 obtain⟨ht,inf,z,hie,hz1,hsz,hby,hzs,hpos⟩:=elemB_iff hT.is
 have hz2:z.cells=#[.int .u8 0]:=by
  have:=hz.is
  unfold zeroT at this
  simp[hie,hz1] at this
  exact this
 have hr:=Lib.run_append_nil_zeros (P:=P) w t tn o.type e inf z k kn ht htn hie hz1 n hn.1 E9 E9 (by rw[hby];omega)
 have hcap:=grownCap_ge w n 0 e
 have hcm:=grownCap_le_maxLen w n 0 e D9
 have e2:Builtin.zeroCells z.cells n++Builtin.zeroCells z.cells (grownCap w n 0 e - n)=bvs (zs (grownCap w n 0 e)):=by
  rw[hz2,show #[Value.int .u8 0]=(Value.int .u8 0).cells from rfl,Q6,Q6]
  unfold bvs
  apply Array.ext'
  have:zs n++zs (grownCap w n 0 e - n)=zs (grownCap w n 0 e):=by
   unfold zs
   rw[List.replicate_append_replicate]
   congr 1;omega
  rw[<-this]
  simp
 rw[e2] at hr
 have e1 : #[x,y].map a.eval=#[.slice none 0 0,.int k (n:Int)]:=by simp[F4 hx,F4 hy]
 have hS1:H w.drew L:=hH.call hS ⟨rfl,rfl,rfl,A3t _,fun _ _=>rfl⟩
 refine hs.go (by exact hw) D5 ?_ (hk _ _ _ hcap hcm (hH.alloc _ e hS1))
 unfold execOp;rw[hop]
 simp only[resolve,Sem.run_bind,Sem.run_pure,Result.andThen_ok,invoke,builtin,e1,hr]
 rfl
theorem F8{b off n c:Nat}{pre post:List Value}{l:List UInt8}{t:TypeId}{fr:Nat × Nat}{cs:Array Value}(hb:blk w b=some (.cells cs t fr))(hcs:cs.toList=pre++(l.map bv++post))(ho:pre.length=off)(hn:l.length=n)(hc:n<=c):BytesAt w (.slice (some ⟨b,off,none⟩) n c) l :=
 L5 hb hn hc fun i x hi=>by
  rw[<-A3r,hcs,A3P E9,ho,A4e,A3E (by rw[A3u];exact(A3n.1 hi).1),A3N,hi]
  rfl
theorem BytesAt.srcs{q:Addr}{n c:Nat}{l:List UInt8}(h:BytesAt w (.slice (some q) n c) l):∀j v,(l.map bv)[j]?=some v->w.cell? (q.add j)=some v:=by
 intro j u hj
 rw[A3N] at hj
 cases hl:l[j]? with
 | none=>rw[hl] at hj;cases hj
 | some x =>
  rw[hl] at hj
  simp only[A4I,Option.some.injEq] at hj
  subst hj
  obtain⟨p',c',hv,h1,h0,h3⟩:=h
  obtain⟨b,o,cs,t,e,hp,hb,hx⟩:=h3 (by rintro rfl;simp at hl)
  simp only[Value.slice.injEq] at hv
  rw[hp] at hv
  simp only[Option.some.injEq] at hv
  rw[hv.1,Q7,cell_of_row w b (o+j) cs t e hb]
  exact hx j x hl
theorem R9(l:List UInt8):∀v∈l.map bv,v.oneCell'=true:=by
 intro v hv
 obtain⟨x,_,rfl⟩:=A3C.1 hv
 rfl
end
def StD(w0:World)(D:Nat)(w:World)(L:List Blk):Prop:=St w0 w L/\w.heap[D]?=some (.deferred (some []))
theorem own_stD{w0:World}{D:Nat}:Own w0.heap.size (StD w0 D) where
 blk:=fun i _ _ _ h hi=>h.1.blk i hi
 call:=fun h hb=>⟨h.1.call hb,(hb.block D (A3y.1 h.2).1).trans h.2⟩
 alloc:=fun cs t h=>⟨h.1.alloc cs t,(Below.heap_alloc _ _ _ (A3y.1 h.2).1).trans h.2⟩
 setRow:=fun {w} {L} i {b} {cs} {t} cs' h hi=>⟨h.1.setRow i hi cs',(setRow_other w b D cs' (fun e=>by
  have h1:w.heap[b]?=some (.cells cs t (0,0)):=h.1.blk i hi
  rw[<-e,h.2] at h1
  cases h1)).trans h.2⟩
 size:=fun h=>h.1.1.size
 add:=fun h hW hg hn hb=>⟨h.1.add (A3T hW.1.1.size hg) hn hb,h.2⟩
 nodup:=fun h=>h.1.2.2
 sub:=fun h hx hn=>⟨⟨h.1.1,fun x hm=>h.1.2.1 x (hx x hm),hn⟩,h.2⟩
theorem StD.far{w0 wr:World}{D:Nat}{L:List Blk}(h:StD w0 D wr L){b:Nat}{cs:Array Value}{t:TypeId}{fr:Nat × Nat}(hb:Go.Proofs.YtlfbfbbdpcihfaaGreat.blk w0 b=some (.cells cs t fr)):Go.Proofs.YtlfbfbbdpcihfaaGreat.blk wr b=some (.cells cs t fr)/\(∀o,wr.cell? ⟨b,o,none⟩=cs[o]?)/\b<w0.heap.size/\b<wr.heap.size/\¬b=wr.heap.size:=h.1.far hb
theorem StD.shut{w0 wr:World}{D:Nat}{L:List Blk}(h:StD w0 D wr L)(h0:w0.heap.size<=D):St w0 (wr.putObj D (.deferred none)) L:=h.1.shut h.2 (fun _ _ _ e=>by cases e) h0 _
theorem r_conv{P:Program}{o:Oper}{a:Act}{w:World}{s t:TypeId}{x:Operand}{k k' ks:IntKind}{n q:Int}(hop:o.op=.convert s t x)(hx:evO a x=some (.int k n))(hs:IntT P s ks)(ht:IntT P t k')(hf:fits k' n)(hq:n=q):(execOp a.eval o).run P w=.ok (.value (.int k' q)) w:=by
 unfold execOp;rw[hop];subst hq
 simp only[F4 hx,convert,Sem.run_bind,run_underlying hs.is,run_underlying ht.is,Result.andThen_ok,Conv.intToInt]
 rw[show k'.wrap n=n from hf]
 rfl
end
end Go.Proofs.YtlfbfbbdpcihfaaGreat
