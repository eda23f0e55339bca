/- Laws that the claim uses. No condition of their own. -/
import Derived.Test.YtlfbfbbdpcihfaaGreatJ15
import Derived.Test.YtlfbfbbdpcihfaaGreatJ21
set_option maxRecDepth 100000
set_option maxHeartbeats 8000000
set_option linter.all false
namespace Go.Proofs.YtlfbfbbdpcihfaaGreat
section
open Go.ChangeShapes Go.WideShapes Go.ChangeAt Go.RowKit
section
attribute [local irreducible] xorL sboxL subB
end
section
theorem RowsAt.len{w:World}{s:Nat}{v:Value}{ks:List (List UInt8)}(h:RowsAt w s v ks):∃p c,v=.slice p ks.length c:=by
 obtain⟨_,p,c,h,_⟩:=h;exact⟨p,c,h⟩
theorem rounds_good(key:List UInt8)(h:key.length=32\/key.length=32)(v:Value)(w:World)(hv:BytesAt w v key):Calls Tryz.prog 146 #[v] w fun e w'=>∃p c,e=.returned (.tuple #[.slice p (rkeys key).length c,.nilIface])/\RowsAt w' 16 (.slice p (rkeys key).length c) (rkeys key)/\Below w.heap.size w w':=by
 rcases h with h|h
 ·refine(show Calls Tryz.prog 146 #[v] w (RoundsOf w (rkeys key)) from by exact rounds8_any key h v w hv).mono ?_
  intro e w' h
  unfold RoundsOf at h
  obtain⟨v,rfl,h1,h2⟩:=h
  obtain⟨p,c,rfl⟩:=h1.len
  exact⟨p,c,rfl,h1,h2⟩
 ·refine(rounds8_any key h v w hv).mono ?_
  intro e w' h
  unfold RoundsOf at h
  obtain⟨v,rfl,h1,h2⟩:=h
  obtain⟨p,c,rfl⟩:=h1.len
  exact⟨p,c,rfl,h1,h2⟩
end
section
theorem keysAt_rows{w:World}{v:Value}{ks:List (List UInt8)}(h:RowsAt w 16 v ks):KeysAt w v ks:=by
 obtain⟨h1,p,c,h2,_,h3⟩:=h
 exact⟨h1,p,c,h2,h3⟩
def sealV(key x:List UInt8):List UInt8:=encN (rkeys key) x (rkeys key).length
def openV(key x:List UInt8):List UInt8:=decN (rkeys key) x (rkeys key).length
theorem sealV_len{key x:List UInt8}(h:key.length=32\/key.length=32)(hx:x.length=16):(sealV key x).length=16:=A2Y (A2B h) hx _ (A3t _)
theorem openV_len{key x:List UInt8}(h:key.length=32\/key.length=32)(hx:x.length=16):(openV key x).length=16:=decN_len (A2B h) hx _ (A3t _)
attribute [local irreducible] xorL sboxL subB sealV openV
end
section
end
section
attribute [local irreducible] xorL sboxL subB sealV openV
end
section
theorem Rd.newRow{L0 L:List (Nat × Obj)}{W W1:World}(h:Rd L0 W L W1){b:Nat}(hb:W.heap.size<=b)(hn:b∉L.map (·.1))(cs:Array Value):Rd L0 W L (W1.setRow b cs):=by
 refine⟨⟨fun x hx=>?_,h.holds.2⟩,⟨h.kept.os,h.kept.tape,h.kept.output,by have:=h.kept.size;simpa using this,fun k hk hn2=>?_⟩,h.fresh⟩
 ·refine(setRow_other W1 b x.1 cs (fun e=>hn (e ▸ A3C.2 ⟨x,hx,rfl⟩))).trans (h.holds.1 x hx)
 ·exact(setRow_other W1 b k cs E9).trans (h.kept.block k hk hn2)
theorem Rd.grow{L0 L:List (Nat × Obj)}{W W1:World}(h:Rd L0 W L W1)(g:Laid):Rd L0 W L (Go.Proofs.YtlfbfbbdpcihfaaGreat.grow W1 g):=h.trans (.call h.holds (A2w W1 g))
end
section
attribute [local irreducible] xorL sboxL subB sealV openV
theorem BytesAt.drop{w:World}{p:Option Addr}{n c:Nat}{l:List UInt8}(h:BytesAt w (.slice p n c) l)(k:Nat)(hk:k<c)(hkn:k<=n):BytesAt w (.slice (p.map (·.add k)) (n - k) (c - k)) (l.drop k):=by
 obtain⟨p',c',hv,h1,h0,h3⟩:=h
 simp only[Value.slice.injEq] at hv
 obtain⟨rfl,rfl,rfl⟩:=hv
 refine⟨p.map (·.add k),c - k,by rw[A3H],by rw[A3H];omega,fun hn=>?_,fun hne=>?_⟩
 ·cases p with
  | none=>have:=h0 rfl;omega
  | some a=>cases hn
 ·obtain⟨b,o,cs,t,e,rfl,hb,hx⟩:=h3 (fun e=>hne (by rw[e,List.drop_nil]))
  refine⟨b,o+k,cs,t,e,by simp[A0l],hb,fun i x hi=>?_⟩
  rw[A4z] at hi
  rw[A4K]
  exact hx _ _ hi
theorem BytesAt.ptr{w:World}{p:Option Addr}{n c:Nat}{l:List UInt8}(h:BytesAt w (.slice p n c) l)(hn:0<n):∃b o,p=some ⟨b,o,none⟩:=by
 obtain⟨p',c',hv,h1,h0,h3⟩:=h
 simp only[Value.slice.injEq] at hv
 obtain⟨rfl,rfl,rfl⟩:=hv
 obtain⟨b,o,cs,t,e,rfl,_⟩:=h3 (by intro e;subst e;simp at hn)
 exact⟨b,o,rfl⟩
theorem BytesAt.from{w:World}{b o n c:Nat}{l:List UInt8}(h:BytesAt w (.slice (some ⟨b,o,none⟩) n c) l)(k:Nat)(hkn:k<=n):BytesAt w (.slice (some ⟨b,o+k,none⟩) (n - k) (c - k)) (l.drop k):=by
 obtain⟨p',c',hv,h1,h0,h3⟩:=h
 simp only[Value.slice.injEq] at hv
 obtain⟨rfl,rfl,rfl⟩:=hv
 refine⟨_,c - k,by rw[A3H],by rw[A3H];omega,(fun hn=>by cases hn),fun hne=>?_⟩
 obtain⟨b',o',cs,t,e,hp,hb,hx⟩:=h3 (fun e=>hne (by rw[e,List.drop_nil]))
 simp only[Option.some.injEq,Addr.mk.injEq,and_true] at hp
 obtain⟨rfl,rfl⟩:=hp
 refine⟨b,o+k,cs,t,e,rfl,hb,fun i x hi=>?_⟩
 rw[A4z] at hi
 rw[A4K]
 exact hx _ _ hi
theorem BytesAt.take{w:World}{p:Option Addr}{n c:Nat}{l:List UInt8}(h:BytesAt w (.slice p n c) l)(k:Nat)(hkn:k<=n):BytesAt w (.slice p k c) (l.take k):=by
 obtain⟨p',c',hv,h1,h0,h3⟩:=h
 simp only[Value.slice.injEq] at hv
 obtain⟨rfl,rfl,rfl⟩:=hv
 refine⟨p,c,by rw[A3s,A5j hkn],by rw[A3s];omega,h0,fun hne=>?_⟩
 obtain⟨b,o,cs,t,e,rfl,hb,hx⟩:=h3 (fun e=>hne (by rw[e,List.take_nil]))
 refine⟨b,o,cs,t,e,rfl,hb,fun i x hi=>hx i x ?_⟩
 rw[A4f] at hi
 split at hi
 ·exact hi
 ·cases hi
theorem BytesAt.len{w:World}{p:Option Addr}{n c:Nat}{l:List UInt8}(h:BytesAt w (.slice p n c) l):n=l.length/\n<=c:=by
 obtain⟨p',c',hv,h1,h0,h3⟩:=h
 simp only[Value.slice.injEq] at hv
 obtain⟨rfl,rfl,rfl⟩:=hv
 exact⟨rfl,h1⟩
theorem hideTurn_any(key x:List UInt8)(h:key.length=32\/key.length=32)(hx:x.length=16)(v:Value)(w:World)(hr:RowsAt w 16 v (rkeys key)) :
  Calls Tryz.prog 182 #[v,.agg (bvs x)] w fun e w'=>e=.returned (.agg (bvs (sealV key x)))/\Below w.heap.size w w':=by
 unfold sealV
 exact encrypt_any (rkeys key) x hx v w (keysAt_rows hr) (by rw[rkeys_len];omega)
theorem showTurn_any(key x:List UInt8)(h:key.length=32\/key.length=32)(hx:x.length=16)(v:Value)(w:World)(hr:RowsAt w 16 v (rkeys key)) :
  Calls Tryz.prog 98 #[v,.agg (bvs x)] w fun e w'=>e=.returned (.agg (bvs (openV key x)))/\Below w.heap.size w w':=by
 unfold openV
 exact decrypt_any (rkeys key) x hx v w (keysAt_rows hr) (by rw[rkeys_len];omega)
end
section
attribute [local irreducible] xorL sboxL subB sealV openV
attribute [local go_sem] Oper.semAt_some
theorem In.blk{L0 L:List (Nat × Array Value × TypeId)}{w W:World}(h:In L0 w L W)(i:Nat){b:Nat}{cs:Array Value}{t:TypeId}(hi:L[i]?=some (b,cs,t)):Go.Proofs.YtlfbfbbdpcihfaaGreat.blk W b=some (.cells cs t (0,0)):=(h.at i hi).1
theorem In.lt{L0 L:List (Nat × Array Value × TypeId)}{w W:World}(h:In L0 w L W)(i:Nat){b:Nat}{cs:Array Value}{t:TypeId}(hi:L[i]?=some (b,cs,t)):b<W.heap.size:=(h.at i hi).2.2.2.1
theorem In.grow{L0 L:List (Nat × Array Value × TypeId)}{w W:World}(h:In L0 w L W)(g:Laid):In L0 w L (Go.Proofs.YtlfbfbbdpcihfaaGreat.grow W g):=h.call (A2w W g)
theorem In.put{L0 L:List (Nat × Array Value × TypeId)}{w W:World}(h:In L0 w L W)(i:Nat){b:Nat}{cs:Array Value}{t:TypeId}(hi:L[i]?=some (b,cs,t))(cs':Array Value):In L0 w (L.set i (b,cs',t)) (putRow W b cs' t):=by
 rw[T4 (h.blk i hi)]
 exact h.setRow i hi cs'
end
end
section
open Go.RowKit
def addG(F:List Nat)(i:Nat):Nat->List Oper->List Oper
 | _,[]=>[]
 | k,o::l=>(if F.contains k then o else ⟨o.dst,o.op,o.type,o.pos,(o.after.toList++[(⟨i,.data⟩:Edge)]).toArray,o.guard⟩)::addG F i (k+1) l
def isMove(o:Oper):Bool:=(match o.op with|.move _=>true|_=>false) && o.after.isEmpty && o.guard.isNone && o.dst.isSome
def fluidOK(F:List Nat):List Nat->List Oper->Bool
 | [],_=>true
 | i::r,l=>F.contains i && (match l[i]? with|some o=>isMove o|none=>false) && Region.noSelect l.toArray && Region.free .any l.toArray (Array.replicate l.length false) i && fluidOK F r (addG F i 0 l)
def addGs(F:List Nat):List Nat->List Oper->List Oper
 | [],l=>l
 | i::r,l=>addGs F r (addG F i 0 l)
section
variable{P:Program}{Q:Exit->Act->World->Prop}{F:List Nat}{i:Nat}
theorem addG_len:∀(k:Nat)(l:List Oper),(addG F i k l).length=l.length
 | _,[]=>rfl
 | k,o::l=>by simp only[addG,A3D,addG_len (k+1) l]
theorem addG_at:∀(k:Nat)(l:List Oper)(j:Nat),(addG F i k l)[j]?=(l[j]?).map fun o=>if F.contains (k+j) then o else ⟨o.dst,o.op,o.type,o.pos,(o.after.toList++[(⟨i,.data⟩:Edge)]).toArray,o.guard⟩
 | k,[],j=>by simp[addG]
 | k,o::l,0=>by simp[addG]
 | k,o::l,j+1=>by
  simp only[addG,A4M]
  rw[addG_at (k+1) l j,show k+1+j=k+(j+1) by omega]
theorem addG_yielded(l:List Oper)(tmps:Array Value)(j:Nat):yielded (addG F i 0 l).toArray tmps j=yielded l.toArray tmps j:=by
 unfold yielded
 rw[A3o,A3o,addG_at]
 cases l[j]? with
 | none=>rfl
 | some o =>
  have e:(if F.contains (0+j)=true then o else ⟨o.dst,o.op,o.type,o.pos,(o.after.toList++[(⟨i,.data⟩:Edge)]).toArray,o.guard⟩:Oper).dst=o.dst:=by split<;>rfl
  simp only[A4I,Option.bind_some,e]
theorem addG_ready{l:List Oper}{x:Array Bool}(hx:x.getD i false=true){j:Nat}:j∈Region.ready .any (addG F i 0 l).toArray x↔j∈Region.ready .any l.toArray x:=by
 rw[mem_ready,mem_ready]
 refine and_congr Iff.rfl ?_
 rw[A3o,A3o,addG_at]
 cases l[j]? with
 | none=>simp
 | some o =>
  simp only[A4I,Option.some.injEq,exists_eq_left']
  by_cases hF:F.contains (0+j)=true
  ·rw[if_pos hF]
  ·rw[if_neg hF]
   constructor
   ·intro h e he hb
    exact h e (by simp only[List.mem_toArray,A3Y];exact .inl (by simpa using he)) hb
   ·intro h e he hb
    simp only[List.mem_toArray,A3Y,A4p] at he
    rcases he with he|rfl
    ·exact h e (by simpa using he) hb
    ·exact hx
theorem any_drop{l:List Oper}:∀(fuel:Nat)(x:Array Bool)(a:Act)(w:World),x.getD i false=true->wpAny P .any (addG F i 0 l).toArray Q fuel x a w->wpAny P .any l.toArray Q fuel x a w:=by
 have hnil:∀(x:Array Bool),x.getD i false=true->(Region.ready .any (addG F i 0 l).toArray x=[]↔Region.ready .any l.toArray x=[]):=by
  intro x hx
  rw[A4s,A4s]
  exact forall_congr' fun j=>not_congr (addG_ready hx)
 intro fuel
 induction fuel with
 | zero=>intro x a w hx h;exact⟨(hnil x hx).1 h.1,h.2⟩
 | succ fuel ih =>
  intro x a w hx h
  refine⟨fun h0=>h.1 ((hnil x hx).2 h0),fun j hj=>?_⟩
  obtain⟨_,o,ho,_⟩:=mem_ready.1 hj
  have h1:=h.2 j ((addG_ready hx).2 hj)
  have hxi:(x.setIfInBounds j true).getD i false=true:=by
   by_cases hji:j=i
   ·subst hji
    simp only[Array.getD] at hx |-
    split at hx
    ·next hlt=>simp[hlt]
    ·cases hx
   ·rw[getD_set_ne false hji];exact hx
  have hK:∀a' w',wpAny P .any (addG F i 0 l).toArray Q fuel (x.setIfInBounds j true) a' w'->wpAny P .any l.toArray Q fuel (x.setIfInBounds j true) a' w':=fun a' w' hh=>ih _ a' w' hxi hh
  have ho2:l[j]?=some o:=by simpa using ho
  unfold wpOp at h1 |-
  rw[A3o,addG_at,ho2] at h1
  rw[A3o,ho2]
  simp only[A4I] at h1 |-
  have hw:∀o':Oper,o'.guard=o.guard->Region.wanted o' (yielded (addG F i 0 l).toArray a.tmps)=Region.wanted o (yielded l.toArray a.tmps):=by
   intro o' hg
   unfold Region.wanted
   rw[hg]
   cases o.guard with
   | none=>rfl
   | some g=>simp only[addG_yielded]
  have key:∀o':Oper,o'.op=o.op->o'.dst=o.dst->o'.guard=o.guard->(Oper.wp P o' a w (wpAny P .any (addG F i 0 l).toArray Q fuel (x.setIfInBounds j true)) Q↔Oper.wp P o a w (wpAny P .any (addG F i 0 l).toArray Q fuel (x.setIfInBounds j true)) Q)/\(o'.asks P a w↔o.asks P a w) ->
    (if Region.wanted o' (yielded (addG F i 0 l).toArray a.tmps)=true then Oper.wp P o' a w (wpAny P .any (addG F i 0 l).toArray Q fuel (x.setIfInBounds j true)) Q\/(o'.asks P a w/\LetsOut Q) else wpAny P .any (addG F i 0 l).toArray Q fuel (x.setIfInBounds j true) (a.put o'.dst undef) w) ->
    (if Region.wanted o (yielded l.toArray a.tmps)=true then Oper.wp P o a w (wpAny P .any l.toArray Q fuel (x.setIfInBounds j true)) Q\/(o.asks P a w/\LetsOut Q) else wpAny P .any l.toArray Q fuel (x.setIfInBounds j true) (a.put o.dst undef) w):=by
   intro o' _ hd hg hiff hh
   rw[hw o' hg] at hh
   split
   ·next hwt =>
    rw[if_pos hwt] at hh
    exact hh.imp (fun h2=>Oper.wp_mono hK (hiff.1.1 h2)) (fun h2=>⟨hiff.2.1 h2.1,h2.2⟩)
   ·next hwt =>
    rw[if_neg hwt,hd] at hh
    exact hK _ _ hh
  by_cases hF:F.contains (0+j)=true
  ·rw[if_pos hF] at h1
   exact key o rfl rfl rfl ⟨Iff.rfl,Iff.rfl⟩ h1
  ·rw[if_neg hF] at h1
   exact key _ rfl rfl rfl ⟨Iff.rfl,Iff.rfl⟩ h1
theorem any_one{l:List Oper}{o:Oper}(ho:l[i]?=some o)(hm:isMove o=true)(hF:F.contains i=true)(hs:Region.noSelect l.toArray=true)(hf:Region.free .any l.toArray (Array.replicate l.length false) i=true)(hQ:∀(d:Nat) v c a w,Q (.panic c) (a.put (some d) v) w->Q (.panic c) a w)
  {fuel:Nat}{a:Act}{w:World}(h:wpAny P .any (addG F i 0 l).toArray Q fuel (Array.replicate l.length false) a w):wpAny P .any l.toArray Q fuel (Array.replicate l.length false) a w:=by
 have hil:=(A3n.1 ho).1
 simp only[isMove,A3A] at hm
 obtain⟨⟨⟨hmo,hma⟩,hmg⟩,hmd⟩:=hm
 obtain⟨d,hd⟩:=Option.isSome_iff_exists.1 hmd
 have hg:o.guard=none:=by simpa using hmg
 have hae:o.after=#[]:=by simpa using hma
 have hr0:∀{L:List Oper},L[i]?=some o->i∈Region.ready .any L.toArray (Array.replicate l.length false):=fun {L} hL=>by
  refine mem_ready.2 ⟨by simp[Array.getD,hil],o,by simpa using hL,fun e he=>?_⟩
  rw[hae] at he
  simp at he
 have hL2:(addG F i 0 l)[i]?=some o:=by rw[addG_at,ho,A4I,A3x,if_pos hF]
 obtain⟨x,hx⟩:∃x,o.op=.move x:=by
  cases hop:o.op<;>rw[hop] at hmo<;>first|exact⟨_,rfl⟩|(cases hmo)
 have hrun:∀w,(execOp a.eval o).run P w=.ok (.value (a.eval x)) w:=fun w=>by unfold execOp;rw[hx];rfl
 have hwt:∀y,Region.wanted o y=true:=fun y=>by unfold Region.wanted;rw[hg]
 cases fuel with
 | zero =>
  have:=hr0 hL2
  rw[h.1] at this;cases this
 | succ fuel =>
  have h1:=h.2 i (hr0 hL2)
  unfold wpOp at h1
  rw[A3o,hL2] at h1
  simp only at h1
  rw[if_pos (hwt _)] at h1
  have h2:wpAny P .any (addG F i 0 l).toArray Q fuel ((Array.replicate l.length false).setIfInBounds i true) (a.put o.dst (a.eval x)) w:=by
   rcases h1 with h1|⟨h1,_⟩
   ·unfold Oper.wp at h1
    rw[hrun] at h1
    exact h1
   ·exfalso
    have h3:=h1.1
    have h4:((execOp a.eval o).runT P w #[]).2=#[]:=by
     unfold execOp
     rw[hx]
     rfl
    rw[h4] at h3
    simp at h3
  have h3:=any_drop fuel _ _ w (by simp[Array.getD,hil]) h2
  exact wpAny_take (by simpa using ho) hs hf (by simpa using hr0 ho) (fun c a w=>by rw[hd];exact hQ _ _ c a w) (.inl ⟨hwt _,hrun⟩) h3
theorem any_fluid:∀(R:List Nat)(l:List Oper),fluidOK F R l=true->(∀(d:Nat) v c a w,Q (.panic c) (a.put (some d) v) w->Q (.panic c) a w)->∀{fuel:Nat}{a:Act}{w:World},
  wpAny P .any (addGs F R l).toArray Q fuel (Array.replicate l.length false) a w->wpAny P .any l.toArray Q fuel (Array.replicate l.length false) a w
 | [],l,_,_,_,_,_,h=>h
 | i::R,l,hok,hQ,fuel,a,w,h=>by
  simp only[fluidOK,A3A] at hok
  obtain⟨⟨⟨⟨h1,h2⟩,h3⟩,h4⟩,h5⟩:=hok
  split at h2
  ·next o ho =>
   refine any_one ho h2 h1 h3 h4 hQ ?_
   have h6:=any_fluid R (addG F i 0 l) h5 hQ (fuel:=fuel) (a:=a) (w:=w) (by rw[addG_len];exact h)
   rw[addG_len] at h6
   exact h6
  ·cases h2
theorem X4{id:Nat}{a:Act}{w:World}{l:List Oper}(F:List Nat)(s:List Nat)(n:Nat){l2:List Oper}(hm:P.follows .mixedOrders=true)(hF:fluidOK F F l=true)(hlen:(addGs F F l).length=l.length)(hs:permOK s (addGs F F l)=true)(hl:permL s (addGs F F l)=l2)(hB:frontOK .any (l2.take n) (l2.drop n)=true)
  (hQ:∀(d:Nat) v c a w,Q (.panic c) (a.put (some d) v) w->Q (.panic c) a w)
  (h:wpM P .any l2.toArray w (fun a' F=>∀b w',Cls w w'->(∀x∈F,w.heap.size<=b x.1/\blk w' (b x.1)=some (.cells x.2.1 x.2.2 (0,0)))->(∀x∈F,∀y∈F,x.1≠y.1->b x.1≠b y.1)->wpList P l2.toArray Q (l2.drop n) (a' b) w') (l2.take n) 0 (fun _=>a) []) :
  (Code.region id l.toArray true).wp P Q a w:=by
 subst hl
 have h1:=any_mono hB h
 rw[A3g hs] at h1
 refine wp_region_any hm ?_
 rw[A3R]
 refine any_fluid F l hF hQ ?_
 rw[<-hlen]
 refine any_perm hs _ _ _ a _ F0 F0 (fun i hi=>?_) h1
 have:=(A0M hs hi).1
 simp[Array.getD,hi,this]
end
end
section
open Go.ChangeShapes Go.WideShapes Go.ChangeAt Go.RowKit
attribute [local irreducible] wpList wpListIn Oper.quietAt wpM
section
attribute [local irreducible] tagL
def hdV(n:Int)(B:List UInt8):Array Value:=(.int .i64 n::B.map bv).toArray
theorem J3(n:Int)(B:List UInt8):csz (hdV n B)=B.length+1:=by unfold hdV csz;simp
theorem N3(n:Int)(B:List UInt8):ones (hdV n B)=true:=by
 unfold hdV
 refine ones_lit ?_
 rw[List.all_cons,List.all_map]
 simp[Value.oneCell',bv]
def headT(N:Nat)(B:List UInt8):List UInt8:=beB N 8++B
def headC(key:List UInt8)(N:Nat)(B:List UInt8):List UInt8:=headT N B++tagL key (headT N B)
theorem headT_len(N:Nat){B:List UInt8}(hB:B.length=88):(headT N B).length=96:=by unfold headT;rw[A3k,H6,hB]
theorem A0A(key:List UInt8)(N:Nat){B:List UInt8}(hB:B.length=88):(headC key N B).length=128:=by unfold headC;rw[A3k,headT_len N hB,K5]
theorem hd_cut(n:Int){B:List UInt8}{o m:Nat}(_ho:o+m<=B.length):cut (hdV n B) (1+o) m=bvs ((B.drop o).take m):=by
 unfold cut hdV
 rw[if_neg E9]
 apply Array.ext'
 unfold bvs
 simp[A4T,A5g,A5a]
 rw[show 1+o=o+1 by omega,A5p]
theorem hd_bytes{w:World}{b:Nat}{n:Int}{B:List UInt8}{t:TypeId}{fr:Nat × Nat}(hb:blk w b=some (.cells (hdV n B) t fr))(o m c:Nat)(ho:o+m<=B.length)(hc:m<=c):BytesAt w (.slice (some ⟨b,1+o,none⟩) m c) ((B.drop o).take m):=by
 refine F8 (pre:=.int .i64 n::(B.take o).map bv) (post:=(B.drop (o+m)).map bv) hb ?_ (by rw[A3D,A3u,A3s];omega) (by rw[A3s,A3H];omega) hc
 have e:B.take o++((B.drop o).take m++B.drop (o+m))=B:=by rw[<-A5i,A3O,A3O]
 unfold hdV
 show _::B.map bv=_
 rw[A3F,<-A3J,<-A3J,e]
theorem r_indexR{P:Program}{o:Oper}{a:Act}{w:World}{x y:Operand}{t n m e e2:Nat}{l:List UInt8}{i:Int}{v:Value}(hop:o.op=.index t x y)(hx:evO a x=some (.agg (bvs l)))(hy:evO a y=some (.int .i64 i))(hu:P.underlying t=some (.array n e))(he:P.underlying e=some (.array m e2))(hs:(P.info? e).map (·.size)=some m)(h0:0<=i/\i<n)(hv:.agg (bvs ((l.drop (i.toNat*m)).take m))=v):(execOp a.eval o).run P w=.ok (.value v) w:=by
 have hagg:(isAgg e).run P w=.ok true w:=by unfold isAgg;simp[run_underlying he]
 have hex:(bvs l).extract (i.toNat*m) (i.toNat*m+m)=bvs ((l.drop (i.toNat*m)).take m):=by
  apply Array.ext'
  unfold bvs
  simp[A4T,A5a,A5g]
 have hp:(part e (bvs l) (i.toNat*m)).run P w=.ok v w:=by
  unfold part
  simp only[Sem.run_bind,hagg,Result.andThen_ok,if_true,J7 hs,hex]
  rw[<-hv];rfl
 have h1:(Instr.index t (.agg (bvs l)) (.int .i64 i)).run P w=.ok v w:=by
  simp[Instr.index,asIntOf,run_underlying hu,h0.1,h0.2,J7 hs,hp]
 unfold execOp;rw[hop]
 simp[F4 hx,F4 hy,h1]
end
section
theorem r_neCel{P:Program}{o:Oper}{a:Act}{w:World}{t t' n:Nat}{x y:Operand}{l m:List UInt8}{q:Bool}(hop:o.op=.binOp .neq t x y t')(hx:evO a x=some (.agg (bvs l)))(hy:evO a y=some (.agg (bvs m)))(hb:isBytes P t n=true)(hg:P.eqGuardType P.depth t=false)(hl:l.length=n)(hm:m.length=n)(hq:(!(l == m))=q):(execOp a.eval o).run P w=.ok (.value (.bool q)) w:=by
 unfold execOp;rw[hop];subst hq
 simp only[F4 hx,F4 hy,Sem.run_bind,run_eqGuard_agg w .neq t x y _ _ hg,Result.andThen_ok,run_neq_struct,V7 hb l m (by rw[F3,hl]) (by rw[F3,hm]) w]
 rfl
end
section
def numR(C:List UInt8)(o:Nat):Nat:=beN ((C.drop o).take 2)
def cntR(C:List UInt8):Int:=wrap64 (beN (C.take 8):Int)
theorem beN_two(l:List UInt8)(h:l.length<=2):beN l<65536:=by
 have h1:=beN_lt l
 have h2:256 ^ l.length<=256 ^ 2:=Nat.pow_le_pow_right E9 h
 have h3:(256:Nat) ^ 2=65536:=by decide +kernel
 rw[h3] at h2
 exact A4P h1 h2
theorem numR_lt(C:List UInt8)(o:Nat):numR C o<65536:=beN_two _ D1
theorem r_convR{P:Program}{o:Oper}{a:Act}{w:World}{s t:TypeId}{x:Operand}{k ks:IntKind}{n q:Int}(hop:o.op=.convert s t x)(hx:evO a x=some (.int k n))(hs:IntT P s ks)(ht:IntT P t .i64)(hq:wrap64 n=q):(execOp a.eval o).run P w=.ok (.value (.int .i64 q)) w:=by
 subst hq
 unfold execOp;rw[hop]
 simp only[F4 hx,convert,Sem.run_bind,run_underlying hs.is,run_underlying ht.is,Result.andThen_ok,Conv.intToInt]
 rw[show IntKind.i64.wrap n=wrap64 n by rw[IntKind.wrap_i64];unfold wrap64;omega]
 rfl
theorem big_quiet(v:Value)(l:List UInt8)(w:World)(hv:BytesAt w v l)(hl:l.length<=8):Calls Tryz.prog 183 #[v] w fun e w'=>e=.returned (.int .u64 (beN l))/\Below w.heap.size w w' :=
 (A1P v l w hv hl).mono (fun _ _ h=>⟨h.1,h.2 ▸ Below.refl _ _⟩)
theorem number_any(C:List UInt8)(hC:C.length=128)(o:Nat)(ho:o<=126)(w0:World) :
  Calls Tryz.prog 289 #[.agg (bvs C),.int .i64 (o:Int)] w0 fun e w'=>e=.returned (.int .i64 (numR C o:Int))/\Below w0.heap.size w0 w':=by
 have hS:=St.start w0
 have sC:csz (bvs C)=128:=by rw[F3,hC]
 have hlt:=numR_lt C o
 have hN:beN ((C.drop o).take 2)=numR C o:=rfl
 have l2:((C.drop o).take 2).length=2:=by rw[A3s,A3H];omega
 have hbg:=fun w b (hv:BytesAt w (.slice (some ⟨b,o,none⟩) 2 (128 - o)) ((C.drop o).take 2))=>big_quiet _ ((C.drop o).take 2) w hv E9
 obtain⟨N,hN2⟩:∃N,numR C o=N:=⟨_,rfl⟩
 rw[hN] at hbg
 rw[hN2] at hbg hlt |-
 go_enter Tryz.func289,Tryz.ntmps289
 refine Zdsm ?_;clear hS;intro _ b w hS _ _
 rw[show ((o:Int)+2).toNat - o=2 by omega]
 repeat' (first|refine Zasm ?_|(refine Zll ?_;(refine g_calls hS (hbg _ _ (Y2 (hS.blk 0 rfl) E9 E9)) ?_;clear hS;intro w hS))|(refine Zg ?_;go_step)|fail)
 go_ret
 exact⟨rfl,hS.below⟩
end
section
def OwL{α:Type}(f:α->List Value)(sz:Nat)(t:TypeId)(l:List α)(v:Value)(Lr:List Blk):Prop:=(v=.slice none 0 0/\l=[]/\Lr=[]) \/
 ∃g c sp,v=.slice (some ⟨g,0,none⟩) l.length c/\l.length<=c/\c<=maxLen/\sp.length=(c - l.length)*sz/\Lr=[(g,(l.flatMap f++sp).toArray,t)]
def OwnL{α:Type}(f:α->List Value)(sz:Nat)(t:TypeId)(B:Nat)(w:World)(v:Value)(l:List α):Prop:=(v=.slice none 0 0/\l=[]) \/
 ∃g c sp,v=.slice (some ⟨g,0,none⟩) l.length c/\l.length<=c/\c<=maxLen/\sp.length=(c - l.length)*sz/\B<=g/\blk w g=some (.cells (l.flatMap f++sp).toArray t (0,0))
def OwAt{α:Type}(f:α->List Value)(w:World)(v:Value)(l:List α):Prop:=∃p c,v=.slice p l.length c/\l.length<=c/\(p=none->c=0)/\(l≠[]->∃b o cs t fr,p=some ⟨b,o,none⟩/\blk w b=some (.cells cs t fr)/\∀j x,(l.flatMap f)[j]?=some x->cs[o+j]?=some x)
section
variable{α:Type}{f:α->List Value}{sz:Nat}{t:TypeId}{l:List α}{v:Value}{Lr:List Blk}
theorem OwAt.below{w w':World}(h:OwAt f w v l)(hb:Below w.heap.size w w'):OwAt f w' v l:=by
 obtain⟨p,c,h1,h2,h3,h4⟩:=h
 refine⟨p,c,h1,h2,h3,fun hne=>?_⟩
 obtain⟨b,o,cs,t,fr,h5,h6,h7⟩:=h4 hne
 exact⟨b,o,cs,t,fr,h5,(hb.block b (G1 h6)).trans h6,h7⟩
theorem OwL.slice(h:OwL f sz t l v Lr):∃p c,v=.slice p l.length c:=by
 rcases h with⟨rfl,rfl,_⟩|⟨g,c,sp,rfl,_⟩
 ·exact⟨_,_,rfl⟩
 ·exact⟨_,_,rfl⟩
theorem OwnL.slice{B:Nat}{w:World}(h:OwnL f sz t B w v l):∃p c,v=.slice p l.length c:=by
 rcases h with⟨rfl,rfl⟩|⟨g,c,sp,rfl,_⟩
 ·exact⟨_,_,rfl⟩
 ·exact⟨_,_,rfl⟩
theorem OwL.own{w0 w:World}{L:List Blk}(h:OwL f sz t l v Lr)(hS:St w0 w L)(hm:∀x∈Lr,x∈L):OwnL f sz t w0.heap.size w v l:=by
 rcases h with⟨rfl,rfl,rfl⟩|⟨g,c,sp,rfl,h1,h2,h3,rfl⟩
 ·exact .inl ⟨rfl,rfl⟩
 ·have:=hS.2.1 _ (hm _ (A3m ..))
  exact .inr ⟨g,c,sp,rfl,h1,h2,h3,this.1,this.2⟩
theorem OwAt.nil(w:World):OwAt f w (.slice none 0 0) []:=⟨none,0,rfl,A3t _,fun _=>rfl,fun h=>absurd rfl h⟩
theorem OwAt.blk{w:World}{g c n:Nat}{sp:List Value}{t:TypeId}{fr:Nat × Nat}(hn:n=l.length)(hc:n<=c)(hb:blk w g=some (.cells (l.flatMap f++sp).toArray t fr)):OwAt f w (.slice (some ⟨g,0,none⟩) n c) l:=by
 subst hn
 exact⟨_,c,rfl,hc,(fun h=>by cases h),fun _=>⟨g,0,_,t,fr,rfl,hb,fun j x hj=>by
  rw[A3x,A3o,A3E (A3n.1 hj).1,hj]⟩⟩
theorem OwL.at{B:Nat}{H:World->List Blk->Prop}(hH:Own B H){w:World}{L:List Blk}(h:OwL f sz t l v Lr)(hS:H w L)(hm:∀x∈Lr,x∈L):OwAt f w v l:=by
 rcases h with⟨rfl,rfl,rfl⟩|⟨g,c,sp,rfl,h1,h2,h3,rfl⟩
 ·exact OwAt.nil w
 ·obtain⟨i,hi⟩:=A5m (hm _ (A3m ..))
  exact OwAt.blk rfl h1 (hH.blk i hS hi)
theorem owl_len(hf:∀a∈l,(f a).length=sz):(l.flatMap f).length=l.length*sz:=by
 induction l with
 | nil=>simp
 | cons a l ih =>
  rw[A4A,A3k,hf a (A3m ..),ih (fun b hb=>hf b (A3l _ hb)),A3D,Nat.add_mul]
  omega
theorem owl_snoc(l:List α)(x:α):(l++[x]).flatMap f=l.flatMap f++f x:=by rw[List.flatMap_append,List.flatMap_singleton]
end
theorem A1G{α:Type}{f:α->List Value}{sz bytes:Nat}{t e:TypeId}{l:List α}{x0:α}{sv:Value}{Lr L:List Blk}{nb:Nat}{x y:Operand}{P:Program}{ops:Array Oper}{W:List Oper->Act->World->Prop}{o:Oper}{rest:List Oper}{a:Act}{w:World}{B:Nat}{H:World->List Blk->Prop}
  (hs:Stp P ops W)(hH:Own B H)(hS:H w ((nb,(f x0).toArray,e)::(Lr++L)))(hR:OwL f sz e l sv Lr)(hw:Region.wanted o (yielded ops a.tmps)=true)(hop:o.op=.call { callee:=.builtin .append,args:=#[x,y],argTypes:=#[t,t] })(hx:evO a x=some sv)(hy:evO a y=some (.slice (some ⟨nb,0,none⟩) 1 1))(hT:SlT P t e sz bytes)
  (hf:∀a∈l,(f a).length=sz)(hfx:(f x0).length=sz)(hone:∀v∈f x0,v.oneCell'=true)(hm:l.length+1<=maxLen/\(l.length+1)*bytes<=140737488355328)
  (hk:∀sv' Lr' w',OwL f sz e (l++[x0]) sv' Lr'->H w' (Lr'++L)->W rest (a.put o.dst sv') w'):W (o::rest) a w:=by
 have hsrc:∀j v,(f x0)[j]?=some v->w.cell? ((⟨nb,0,none⟩:Addr).add j)=some v:=L9 (hH.blk 0 hS rfl) (fun j v h=>by rw[A3x];exact h)
 rcases hR with⟨rfl,rfl,rfl⟩|⟨g,c,sp,rfl,h1,h2,h3,rfl⟩
 ·simp only[A3q] at hS
  refine Z6 hs hH hS hw hop hx hy hT (xs:=f x0) hsrc (by rw[hfx,A4J]) (by
   obtain⟨q1,q2⟩:=hm
   simp only[A3S,A3x] at q1 q2
   exact⟨by omega,q1,q2⟩) ?_
  intro by2 cy2 S2 w' hq1 hq2 hq3 hS2
  refine hk _ [(by2,(([]++[x0]).flatMap f++S2).toArray,e)] _ (.inr ⟨by2,cy2,S2,rfl,hq1,hq2,hq3,rfl⟩) ?_
  have hn:=hH.nodup hS2
  rw[show f x0=([]++[x0]).flatMap f by rw[A3q,List.flatMap_singleton]] at hS2
  simp only[A3X,A4a,A3G,not_or] at hn
  refine hH.sub (L':=(by2,(([]++[x0]).flatMap f++S2).toArray,e)::L) hS2 (fun z hz=>?_) ?_
  ·rcases A3G.1 hz with rfl|hz
   ·exact A3m ..
   ·exact A3l _ (A3l _ hz)
  ·simp only[A3X,A4a]
   exact⟨hn.1.2,hn.2.2⟩
 ·simp only[A3F,A3q] at hS
  refine J9 hs hH hS hw hop hx hy hT (by exact at_ 1 rfl) (olds:=l.flatMap f) (spare:=sp) F1 (owl_len hf) h1 h3 (xs:=f x0) hsrc (by rw[hfx,A4J]) hone ⟨hm.1,hm.2,h2⟩ rfl ?_
  intro by2 cy2 S2 w' hq1 hq2 hq3 hS2
  have e1:l.length+1=(l++[x0]).length:=by rw[A3k];rfl
  refine hk _ [(by2,((l++[x0]).flatMap f++S2).toArray,e)] _ (.inr ⟨by2,cy2,S2,by rw[e1],by rw[<-e1];exact hq1,hq2,by rw[<-e1];exact hq3,rfl⟩) ?_
  have hn:=hH.nodup hS2
  rw[<-owl_snoc] at hS2
  simp only[A4c,A4b,A3X,A4a,A3G,not_or] at hn
  refine hH.sub (L':=(by2,((l++[x0]).flatMap f++S2).toArray,e)::L) hS2 (fun z hz=>?_) ?_
  ·rcases A3G.1 hz with rfl|hz
   ·exact A3m ..
   ·exact A3l _ (A3l _ hz)
  ·simp only[A3X,A4a]
   exact⟨hn.1.2,hn.2.2⟩
end
section
def saysR(C:List UInt8):Nat:=if numR C 8<=56 then numR C 8 else 0
theorem saysR_le(C:List UInt8):saysR C<=56:=by unfold saysR;split<;>omega
end
end
section
open Go.ChangeShapes Go.WideShapes Go.ChangeAt Go.RowKit
attribute [local irreducible] wpList wpListIn Oper.quietAt wpM
open Go.Maps
abbrev mapAt(w:World)(B n:Nat)(D:DataW Unit):Prop:=w.ownsMap Tryz.prog 3 (plainElem Tryz.prog 3) B n D
theorem map_kept{w w':World}{B n:Nat}{D:DataW Unit}(h:mapAt w B n D)(hb:w'.heap[B]?=w.heap[B]?):mapAt w' B n D:=by
 obtain⟨es,clock,h1,h2⟩:=h
 exact⟨es,clock,hb.trans h1,h2⟩
theorem map_obj{w:World}{B n:Nat}{D:DataW Unit}(h:mapAt w B n D):B<w.heap.size/\∀cs t fr,w.heap[B]?≠some (.cells cs t fr):=by
 obtain⟨es,clock,h1,h2⟩:=h
 exact⟨(A3y.1 h1).1,fun cs t fr e=>by rw[h1] at e;cases e⟩
def StM(w0:World)(B n:Nat)(D:DataW Unit)(w:World)(L:List Blk):Prop:=St w0 w L/\mapAt w B n D/\w0.heap.size<=B
theorem own_stM{w0:World}{B n:Nat}{D:DataW Unit}:Own w0.heap.size (StM w0 B n D) where
 blk:=fun i _ _ _ h hi=>h.1.blk i hi
 call:=fun h hb=>⟨h.1.call hb,map_kept h.2.1 (hb.block B (map_obj h.2.1).1),h.2.2⟩
 alloc:=fun cs t h=>⟨h.1.alloc cs t,map_kept h.2.1 (Below.heap_alloc _ _ _ (map_obj h.2.1).1),h.2.2⟩
 setRow:=fun {w} {L} i {b} {cs} {t} cs' h hi=>⟨h.1.setRow i hi cs',map_kept h.2.1 (setRow_other w b B cs' (fun e=>by
  have h1:w.heap[b]?=some (.cells cs t (0,0)):=h.1.blk i hi
  exact(map_obj h.2.1).2 _ _ _ (e ▸ h1))),h.2.2⟩
 size:=fun h=>h.1.1.size
 add:=fun h hW hg hn hb=>⟨h.1.add (A3T hW.1.1.size hg) hn hb,h.2⟩
 nodup:=fun h=>h.1.2.2
 sub:=fun h hx hn=>⟨⟨h.1.1,fun x hm=>h.1.2.1 x (hx x hm),hn⟩,h.2⟩
theorem StM.far{w0 wr:World}{B n:Nat}{D:DataW Unit}{L:List Blk}(h:StM w0 B n D wr L){b:Nat}{cs:Array Value}{t:TypeId}{fr:Nat × Nat}(hb:Go.Proofs.YtlfbfbbdpcihfaaGreat.blk w0 b=some (.cells cs t fr)):Go.Proofs.YtlfbfbbdpcihfaaGreat.blk wr b=some (.cells cs t fr)/\(∀o,wr.cell? ⟨b,o,none⟩=cs[o]?)/\b<w0.heap.size/\b<wr.heap.size/\¬b=wr.heap.size:=h.1.far hb
theorem zeroInt(w:World):(zeroValue 3).run Tryz.prog w=.ok (.int .i64 0) w:=by kernel_rfl
theorem i64_wf{a:Int}(h : -9223372036854775808<=a/\a<=9223372036854775807):(Lit.int .i64 a).wf=true:=by
 have q1:IntKind.i64.min = -9223372036854775808:=rfl
 have q2:IntKind.i64.max=9223372036854775807:=rfl
 simp only[Lit.wf,A3A,decide_eq_true_eq]
 omega
variable{ops:Array Oper}{Q:Exit->Act->World->Prop}{o:Oper}{rest:List Oper}{a:Act}{w w0:World}{L:List Blk}
theorem s_makeMap{t:TypeId}(hS:St w0 w L)(hw:Region.wanted o (yielded ops a.tmps)=true)(hop:o.op=.makeMap t none)(hk:∀B w',StM w0 B 0 (.map []) w' L->wpList Tryz.prog ops Q rest (a.put o.dst (.map (some B))) w'):wpList Tryz.prog ops Q (o::rest) a w:=by
 refine stp_list.go hw D5 (v:=.map (some w.heap.size)) (w':=w.alloc (.map #[] 0)) ?_ (hk _ _ ⟨hS.call ((Below.refl _ _).alloc (A3t _) _),World.ownsMap_made _ _ _ _,hS.1.size⟩)
 unfold execOp;rw[hop]
 rfl
theorem X9{m x:Operand}{t:TypeId}{B n:Nat}{D:DataW Unit}{k:Int}(hS:StM w0 B n D w L)(hg:o.guard=none)(hop:o.op=.lookup t m x false)(ht:Tryz.prog.underlying t=some (.map 3 3))(hm:evO a m=some (.map (some B)))(hx:evO a x=some (.int .i64 k))(hk1 : -9223372036854775808<=k/\k<=9223372036854775807){c:Int}(hc:D.atKey (.int .i64 k) (.lit (.int .i64 0))=.lit (.int .i64 c))(hk:wpList Tryz.prog ops Q rest (a.put o.dst (.int .i64 c)) w):wpList Tryz.prog ops Q (o::rest) a w:=by
 refine wpList_lookup_own_int w hg m x t hop 3 3 .i64 (int_keyed Tryz.underlying3) ht Tryz.underlying3 (zeroInt w) B n D (F4 hm) hS.2.1 _ _ (F4 hx) (keyOf_int_mk Tryz.underlying3 (i64_wf hk1)) ?_
 intro c' h1 _
 rw[hc] at h1
 simp only[DataW.lit.injEq,Lit.int.injEq,true_and] at h1
 subst h1
 exact hk
theorem s_update{m x v:Operand}{t:TypeId}{B n:Nat}{D:DataW Unit}{k z:Int}(hS:StM w0 B n D w L)(hg:o.guard=none)(hop:o.op=.mapUpdate t m x v)(ht:Tryz.prog.underlying t=some (.map 3 3))(hn:n<1000000)(hm:evO a m=some (.map (some B)))(hx:evO a x=some (.int .i64 k))(hv:evO a v=some (.int .i64 z))(hk1 : -9223372036854775808<=k/\k<=9223372036854775807)(hz : -9223372036854775808<=z/\z<=9223372036854775807)
  (hk:∀w',StM w0 B (n+1) (D.put (.int .i64 k) (.lit (.int .i64 z))) w' L->wpList Tryz.prog ops Q rest (a.put o.dst undef) w'):wpList Tryz.prog ops Q (o::rest) a w:=by
 refine wpList_mapUpdate_own w hg m x v t hop 3 3 (int_keyed Tryz.underlying3) ht _ B n D (F4 hm) hS.2.1 D9 _ _ _ (F4 hx) (F4 hv) (keyOf_int_mk Tryz.underlying3 (i64_wf hk1)) _ [] (plainElem_int Tryz.underlying3 (i64_wf hz)) ?_
 intro w' h1 h2
 refine hk w' ⟨?_,h1,hS.2.2⟩
 obtain⟨hb,hl,hnd⟩:=hS.1
 have hbelow:Below w0.heap.size w w':=⟨h2.os,h2.tape,h2.output,h2.size,fun k hk=>h2.block k (A4P hk hb.size) (fun e=>by cases e;exact Nat.lt_irrefl _ (A4P hk hS.2.2))⟩
 refine⟨hb.trans hbelow,fun y hy=>⟨(hl y hy).1,?_⟩,hnd⟩
 have h3:=(hl y hy).2
 have h4:y.1<w.heap.size:=G1 h3
 refine(h2.block y.1 h4 (fun e=>?_)).trans h3
 cases e
 exact(map_obj hS.2.1).2 _ _ _ h3
end
end Go.Proofs.YtlfbfbbdpcihfaaGreat
