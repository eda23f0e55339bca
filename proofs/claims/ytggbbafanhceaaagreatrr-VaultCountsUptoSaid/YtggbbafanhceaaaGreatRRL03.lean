/-
  Laws that the claims of this seat use, of several texts in one. No condition of their own.
-/
import Derived.Test.YtggbbafanhceaaaGreatRRL02
set_option maxRecDepth 100000
set_option maxHeartbeats 8000000
set_option linter.all false
namespace Go.Proofs.YtggbbafanhceaaaGreatRR
section
open Go.RowKit
structure Laid where
 objs:Array Obj
 drawn:Nat
def Laid.n(g:Laid):Nat:=g.objs.size
def grow(w:World)(g:Laid):World:={ w with heap:=w.heap++g.objs,drawn:=g.drawn }
def putRow(w:World)(b:Nat)(cs:Array Value)(t:TypeId):World:={ w with heap:=w.heap.setIfInBounds b (.cells cs t (0,0)) }
theorem grow_of{w w':World}(h:Below w.heap.size w w'):∃g,w'=grow w g:=by
 obtain⟨n,hn⟩:∃n,n=w'.heap.size:=⟨_,rfl⟩
 refine⟨⟨w'.heap.extract w.heap.size n,w'.drawn⟩,?_⟩
 obtain⟨h1,h2,h3,h4,h5⟩:=h
 cases w' with
 | mk heap tape drawn os output =>
  simp only at h1 h2 h3 h4 h5 hn ⊢
  subst h1 h2 h3
  unfold grow
  congr 1
  apply A5D
  intro k
  rw[Array.getElem?_append]
  by_cases hk:k<w.heap.size
  ·rw[if_pos hk];exact h5 k hk
  ·rw[if_neg hk,A6k]
   by_cases hk2:k<n
   ·rw[if_pos H6,show w.heap.size+(k - w.heap.size)=k by omega]
   ·rw[if_neg H6,A5m H6]
theorem grow_heap(w:World)(g:Laid)(k:Nat)(h:k<w.heap.size):(grow w g).heap[k]?=w.heap[k]?:=by
 show (w.heap++g.objs)[k]?=_
 rw[Array.getElem?_append,if_pos h]
@[go_sem] theorem A1B(w:World)(g:Laid):(grow w g).heap.size=w.heap.size+g.n:=by simp[grow,Laid.n]
theorem A0N(w:World)(g:Laid):Below w.heap.size w (grow w g):=⟨rfl,rfl,rfl,by rw[A1B];omega,fun k hk=>grow_heap w g k hk⟩
theorem A1R{w0 w:World}(h:Below w0.heap.size w0 w)(g:Laid):Below w0.heap.size w0 (grow w g):=h.trans ((A0N w g).mono h.size)
@[go_sem] theorem grow_cell(w:World)(g:Laid)(n i:Nat)(hn:n<w.heap.size):(grow w g).cell? ⟨n,i,none⟩=w.cell? ⟨n,i,none⟩:=(A0N w g).cell (p:=⟨n,i,none⟩) hn
@[go_sem] theorem grow_blk(w:World)(g:Laid)(n:Nat)(hn:n<w.heap.size):blk (grow w g) n=blk w n:=grow_heap w g n hn
@[go_sem high] theorem alloc_blk_past(w:World)(o:Obj)(n:Nat)(hn:n<w.heap.size):blk (w.alloc o) n=blk w n:=Below.heap_alloc w o n hn
@[go_sem] theorem grow_drew(w:World)(g:Laid):grow w.drew g=grow w g:=rfl
@[go_sem] theorem grow_drewN(w:World)(n:Nat)(g:Laid):grow (w.drewN n) g=grow w g:=rfl
theorem modify_append{a b:Array Obj}{n:Nat}(h:n<a.size)(f:Obj→Obj):(a++b).modify n f=a.modify n f++b:=by
 apply A5D
 intro k
 simp only[A6s,Array.getElem?_append,Array.size_modify]
 by_cases hk:k<a.size
 ·simp only[hk,if_true]
 ·have:n≠k:=by omega
  simp only[hk,if_false,this]
@[go_sem] theorem grow_setRow(w:World)(g:Laid)(n:Nat)(cs:Array Value)(hn:n<w.heap.size):(grow w g).setRow n cs=grow (w.setRow n cs) g:=by
 unfold World.setRow grow
 simp only
 congr 1
 exact modify_append hn _
@[go_sem] theorem A2A(w:World)(b:Nat)(cs:Array Value)(t:TypeId):(putRow w b cs t).heap.size=w.heap.size:=by simp[putRow]
theorem A1c(w:World)(b k:Nat)(cs:Array Value)(t:TypeId)(h:¬k=b):(putRow w b cs t).heap[k]?=w.heap[k]?:=by
 show (w.heap.setIfInBounds b _)[k]?=_
 rw[A5y (fun e=>h e.symm)]
theorem A0i(w:World)(b:Nat)(cs:Array Value)(t:TypeId)(h:b<w.heap.size):(putRow w b cs t).heap[b]?=some (.cells cs t (0,0)):=by
 show (w.heap.setIfInBounds b _)[b]?=_
 rw[A5T h]
@[go_sem] theorem A3s(w:World)(b n:Nat)(cs:Array Value)(t:TypeId)(h:¬n=b):blk (putRow w b cs t) n=blk w n:=A1c w b n cs t h
@[go_sem] theorem put_blk_same(w:World)(b:Nat)(cs:Array Value)(t:TypeId)(h:b<w.heap.size):blk (putRow w b cs t) b=some (.cells cs t (0,0)):=A0i w b cs t h
@[go_sem] theorem put_cell_other(w:World)(b n i:Nat)(cs:Array Value)(t:TypeId)(h:¬n=b):(putRow w b cs t).cell? ⟨n,i,none⟩=w.cell? ⟨n,i,none⟩:=World.cell?_of_block (w:=w) (a:=⟨n,i,none⟩) (A1c w b n cs t h)
@[go_sem] theorem put_cell_same(w:World)(b i:Nat)(cs:Array Value)(t:TypeId)(h:b<w.heap.size):(putRow w b cs t).cell? ⟨b,i,none⟩=cs[i]?:=cell_of_row _ b i cs t _ (A0i w b cs t h)
@[go_sem] theorem put_frozen_same(w:World)(b i:Nat)(cs:Array Value)(t:TypeId)(h:b<w.heap.size):(putRow w b cs t).frozen? ⟨b,i,none⟩=false:=frozen_of_row _ b i cs t (A0i w b cs t h)
@[go_sem] theorem put_drew(w:World)(b:Nat)(cs:Array Value)(t:TypeId):putRow w.drew b cs t=(putRow w b cs t).drew:=rfl
@[go_sem] theorem put_drewN(w:World)(n b:Nat)(cs:Array Value)(t:TypeId):putRow (w.drewN n) b cs t=(putRow w b cs t).drewN n:=rfl
@[go_sem] theorem A2g(w:World)(b:Nat)(cs cs':Array Value)(t:TypeId):(putRow w b cs t).setRow b cs'=putRow w b cs' t:=by
 unfold World.setRow putRow
 simp only
 congr 1
 apply A5D
 intro k
 simp only[A6s]
 by_cases hk:b=k
 ·subst hk
  rw[if_pos rfl]
  by_cases hb:b<w.heap.size
  ·rw[A5T hb,A5T hb];rfl
  ·rw[A5m G7,A5m G7];rfl
 ·rw[if_neg hk,A5y hk,A5y hk]
@[go_sem] theorem put_setCell_same(w:World)(b i:Nat)(cs:Array Value)(t:TypeId)(v:Value)(h:b<w.heap.size):(putRow w b cs t).setCell ⟨b,i,none⟩ v=putRow w b (cs.setIfInBounds i v) t:=by
 rw[setCell_eq_setRow _ b i cs t (0,0) v (A0i w b cs t h),A2g]
theorem modify_set{a:Array Obj}{n b:Nat}(h:¬n=b)(o:Obj)(f:Obj→Obj):(a.setIfInBounds b o).modify n f=(a.modify n f).setIfInBounds b o:=by
 apply A5D
 intro k
 by_cases hk:n=k
 ·subst hk
  have hb:b≠n:=fun e=>h e.symm
  rw[A6s,if_pos rfl,A5y hb,A5y hb,A6s,if_pos rfl]
 ·rw[A6s,if_neg hk]
  by_cases hb:b=k
  ·subst hb
   by_cases hs:b<a.size
   ·rw[A5T hs,A5T (by simpa using hs)]
   ·rw[A5m G7,A5m G7]
  ·rw[A5y hb,A5y hb,A6s,if_neg hk]
@[go_sem] theorem put_setRow_other(w:World)(b n:Nat)(cs cs':Array Value)(t:TypeId)(h:¬n=b):(putRow w b cs t).setRow n cs'=putRow (w.setRow n cs') b cs t:=by
 unfold World.setRow putRow
 simp only
 congr 1
 exact modify_set h _ _
theorem Y7{w:World}{b:Nat}{cs:Array Value}{t:TypeId}(h:blk w b=some (.cells cs t (0,0))):w=putRow w b cs t:=by
 have h':w.heap[b]?=some (.cells cs t (0,0)):=h
 cases w with
 | mk heap tape drawn os output =>
  unfold putRow
  congr 1
  apply A5D
  intro k
  by_cases hk:b=k
  ·subst hk
   simp only at h'
   rw[A5T (A4H.1 h').1,h']
  ·rw[A5y hk]
theorem below_put{B:Nat}{w0 w:World}(h:Below B w0 w){b:Nat}(hb:B≤b)(cs:Array Value)(t:TypeId):Below B w0 (putRow w b cs t) :=
 h.trans ⟨rfl,rfl,rfl,by rw[A2A];exact A4C _,fun k hk=>A1c w b k cs t H6⟩
@[go_sem] theorem nat_lt_g{a b:Nat}(g:Laid)(h:a<b):(a<b+g.n)=True:=eq_true H6
@[go_sem] theorem nat_lt_gc{a b:Nat}(g:Laid)(c:Nat)(h:a<b):(a<b+(g.n+c))=True:=eq_true H6
@[go_sem high] theorem nat_lt_s2{w:World}:(w.heap.size<w.heap.size+1+1)=True:=eq_true H6
@[go_sem high] theorem nat_ne_s2{w:World}:(w.heap.size=w.heap.size+1+1)=False:=eq_false H6
@[go_sem high] theorem nat_en_s2{w:World}:(w.heap.size+1+1=w.heap.size)=False:=eq_false H6
@[go_sem] theorem nat_lt_h2{a:Nat}{w:World}(h:a<w.heap.size):(a<w.heap.size+1+1)=True:=eq_true H6
@[go_sem high] theorem nat_lt_s3{w:World}:(w.heap.size<w.heap.size+1+1+1)=True:=eq_true H6
@[go_sem high] theorem nat_en_s3{w:World}:(w.heap.size+1+1+1=w.heap.size)=False:=eq_false H6
@[go_sem] theorem nat_lt_h3{a:Nat}{w:World}(h:a<w.heap.size):(a<w.heap.size+1+1+1)=True:=eq_true H6
@[go_sem high] theorem nat_lt_s4{w:World}:(w.heap.size<w.heap.size+1+1+1+1)=True:=eq_true H6
@[go_sem high] theorem nat_en_s4{w:World}:(w.heap.size+1+1+1+1=w.heap.size)=False:=eq_false H6
@[go_sem] theorem nat_lt_h4{a:Nat}{w:World}(h:a<w.heap.size):(a<w.heap.size+1+1+1+1)=True:=eq_true H6
@[go_sem high] theorem nat_lt_s5{w:World}:(w.heap.size<w.heap.size+1+1+1+1+1)=True:=eq_true H6
@[go_sem high] theorem nat_en_s5{w:World}:(w.heap.size+1+1+1+1+1=w.heap.size)=False:=eq_false H6
@[go_sem] theorem nat_lt_h5{a:Nat}{w:World}(h:a<w.heap.size):(a<w.heap.size+1+1+1+1+1)=True:=eq_true H6
@[go_sem high] theorem nat_lt_s6{w:World}:(w.heap.size<w.heap.size+1+1+1+1+1+1)=True:=eq_true H6
@[go_sem] theorem nat_lt_h6{a:Nat}{w:World}(h:a<w.heap.size):(a<w.heap.size+1+1+1+1+1+1)=True:=eq_true H6
@[go_sem high] theorem nat_lt_s7{w:World}:(w.heap.size<w.heap.size+1+1+1+1+1+1+1)=True:=eq_true H6
@[go_sem high] theorem nat_ne_s7{w:World}:(w.heap.size=w.heap.size+1+1+1+1+1+1+1)=False:=eq_false H6
@[go_sem] theorem nat_lt_h7{a:Nat}{w:World}(h:a<w.heap.size):(a<w.heap.size+1+1+1+1+1+1+1)=True:=eq_true H6
@[go_sem] theorem add_laid(a b:Nat)(g:Laid):a+g.n+b=a+(g.n+b):=A6c ..
@[go_sem] theorem add_laid2(a b c:Nat)(g:Laid):a+(g.n+b)+c=a+(g.n+(b+c)):=by omega
theorem St.grow{w0 w:World}{L:List (Nat × Array Value × TypeId)}(h:St w0 w L)(g:Laid):St w0 (Go.Proofs.YtggbbafanhceaaaGreatRR.grow w g) L:=h.call (A0N w g)
theorem X0{w:World}{b:Nat}{cs:Array Value}{t:TypeId}(h:blk w b=some (.cells cs t (0,0)))(cs':Array Value):putRow w b cs' t=w.setRow b cs':=by
 conv=>rhs;rw[Y7 h]
 rw[A2g]
theorem St.put{w0 w:World}{L:List (Nat × Array Value × TypeId)}(h:St w0 w L)(i:Nat){b:Nat}{cs:Array Value}{t:TypeId}(hi:L[i]?=some (b,cs,t))(cs':Array Value):St w0 (putRow w b cs' t) (L.set i (b,cs',t)):=by
 rw[X0 (h.blk i hi)]
 exact h.setRow i hi cs'
theorem St.ne{w0 w:World}{L:List (Nat × Array Value × TypeId)}(h:St w0 w L)(i j:Nat){b c:Nat}{cs cs':Array Value}{t t':TypeId}(hi:L[i]?=some (b,cs,t))(hj:L[j]?=some (c,cs',t'))(hij:i≠j):¬b=c:=fun e=>by
 have h1:(L.map (·.1))[i]?=some b:=by simp[hi]
 have h2:(L.map (·.1))[j]?=some c:=by simp[hj]
 subst e
 obtain⟨l1,e1⟩:=A4v.1 h1
 obtain⟨l2,e2⟩:=A4v.1 h2
 exact hij ((List.getElem_inj h.2.2).1 (e1.trans e2.symm))
theorem St.lt{w0 w:World}{L:List (Nat × Array Value × TypeId)}(h:St w0 w L)(i:Nat){b:Nat}{cs:Array Value}{t:TypeId}(hi:L[i]?=some (b,cs,t)):b<w.heap.size:=J5 (h.blk i hi)
theorem St.low{w0 w:World}{L:List (Nat × Array Value × TypeId)}(h:St w0 w L)(i:Nat){b:Nat}{cs:Array Value}{t:TypeId}(hi:L[i]?=some (b,cs,t)):w0.heap.size≤b:=(h.2.1 _ (A5a hi)).1
theorem St.put2{w0 x:World}{b c:Nat}{cs cs':Array Value}{t t':TypeId}(h:St w0 x [(b,cs,t),(c,cs',t')])(d d':Array Value):St w0 (putRow (putRow x c d' t') b d t) [(b,d,t),(c,d',t')]:=(h.put 1 rfl d').put 0 rfl d
theorem St.put3{w0 x:World}{b c e:Nat}{cs cs' cs2:Array Value}{t t' t2:TypeId}(h:St w0 x [(b,cs,t),(c,cs',t'),(e,cs2,t2)])(d d' d2:Array Value):St w0 (putRow (putRow (putRow x e d2 t2) c d' t') b d t) [(b,d,t),(c,d',t'),(e,d2,t2)]:=((h.put 2 rfl d2).put 1 rfl d').put 0 rfl d
theorem St.erase{w0 w:World}{L:List (Nat × Array Value × TypeId)}(h:St w0 w L)(i:Nat):St w0 w (L.eraseIdx i) :=
 ⟨h.1,fun x hx=>h.2.1 x (A6v hx),h.2.2.sublist ((List.eraseIdx_sublist L i).map _)⟩
theorem St.take{w0 w:World}{L:List (Nat × Array Value × TypeId)}(h:St w0 w L)(n:Nat):St w0 w (L.take n) :=
 ⟨h.1,fun x hx=>h.2.1 x (A6A hx),by rw[A6g];exact h.2.2.sublist (List.take_sublist _ _)⟩
end
section
open Go.ChangeShapes Go.WideShapes Go.ChangeAt Go.RowKit
def RowsAt(w:World)(s:Nat)(v:Value)(ks:List (List UInt8)):Prop :=
 (∀k∈ks,k.length=s)∧∃p c,v=.slice p ks.length c∧(p=none→c=0)∧∀i k,ks[i]?=some k→∃b o cs t e,p=some ⟨b,o,none⟩∧blk w b=some (.cells cs t e)∧o+i*s+s≤csz cs∧cut cs (o+i*s) s=bvs k
def BytesAt(w:World)(v:Value)(l:List UInt8):Prop :=
 ∃p c,v=.slice p l.length c∧l.length≤c∧(p=none→c=0)∧(l≠[]→∃b o cs t e,p=some ⟨b,o,none⟩∧blk w b=some (.cells cs t e)∧∀i x,l[i]?=some x→cs[o+i]?=some (bv x))
theorem RowsAt.below{w w':World}{s:Nat}{v:Value}{ks:List (List UInt8)}(h:RowsAt w s v ks)(hb:Below w.heap.size w w'):RowsAt w' s v ks:=by
 obtain⟨h1,p,c,h2,h0,h3⟩:=h
 refine⟨h1,p,c,h2,h0,fun i k hi=>?_⟩
 obtain⟨b,o,cs,t,e,h4,h5,h6⟩:=h3 i k hi
 exact⟨b,o,cs,t,e,h4,(hb.block b (J5 h5)).trans h5,h6⟩
theorem BytesAt.below{w w':World}{v:Value}{l:List UInt8}(h:BytesAt w v l)(hb:Below w.heap.size w w'):BytesAt w' v l:=by
 obtain⟨p,c,h2,h1,h0,h3⟩:=h
 refine⟨p,c,h2,h1,h0,fun hne=>?_⟩
 obtain⟨b,o,cs,t,e,h4,h5,h6⟩:=h3 hne
 exact⟨b,o,cs,t,e,h4,(hb.block b (J5 h5)).trans h5,h6⟩
theorem blk_of_cell{w:World}{a:Addr}{v:Value}(h:w.cell? a=some v):∃b o cs t e,a=⟨b,o,none⟩∧blk w b=some (.cells cs t e)∧cs[o]?=some v:=by
 unfold World.cell? at h
 cases ho:w.heap[a.block]? with
 | none=>simp[ho] at h
 | some o =>
  cases o with
  | cells c t fr =>
   simp only[ho] at h
   obtain⟨b,o,sp⟩:=a
   cases sp with
   | some s=>simp at h
   | none=>exact⟨b,o,c,t,fr,rfl,ho,by simpa using h⟩
  | _=>simp[ho] at h
theorem A0m(b o j:Nat):(⟨b,o,none⟩:Addr).add j=⟨b,o+j,none⟩:=by
 unfold Addr.add
 split<;>simp_all
theorem K3(cs:Array Value):csz cs=cs.size:=by unfold csz;rfl
theorem cut_of_cells{cs:Array Value}{o n:Nat}{l:List UInt8}(hl:l.length=n)(hn:0<n)(h:∀i x,l[i]?=some x→cs[o+i]?=some (bv x)):o+n≤csz cs∧cut cs o n=bvs l:=by
 have hs:o+n≤cs.size:=by
  have h1:=h (n - 1) (l.getD (n - 1) 0) (by simp[show n - 1<l.length by omega])
  have:=(A4H.1 h1).1
  omega
 refine⟨by rw[K3];exact hs,?_⟩
 have key:cs.extract o (o+n)=bvs l:=by
  apply A5D
  intro i
  rw[bvs_getElem?]
  by_cases hi:i<n
  ·have hx:l[i]?=some l[i]:=A4y H6
   rw[A6k,hx]
   simp only[A5J]
   rw[if_pos H6]
   exact h i _ hx
  ·rw[A5m G7,A5v H6];rfl
 unfold cut
 split
 ·rename_i hc
  obtain⟨rfl,hc⟩:=hc
  rw[K3] at hc
  rw[←key]
  simp[←hc]
 ·exact key
theorem open_bytes{P:Program}{H:Type}{enc:TypeId × Value→H}{w:World}{base:Nat}{sp:Nat→Bool}{held:Bool}{t e:Nat}{v:Value}{d:DataW H}{p:List MemPlace}
  (ht:P.underlying t=some (.slice e))(he:P.underlying e=some (.int .u8))(hc:P.cellsOf e=1)(hv:∃a len cap,v=.slice a len cap)(hr:DataW.Trod enc P w base sp held t v d p) :
  ∃l,BytesAt w v l∧l.length≤maxLen:=by
 obtain⟨a0,len0,cap0,rfl⟩:=hv
 obtain⟨fuel,hf⟩:=hr
 rcases Go.Deep.open_slice1 ht hc hf with⟨hcs,_⟩|⟨a,len,cap,m,n2,V,D,Pl,hcs,_,hlc,hcm,hm,_,hx⟩
 ·simp only[Value.cells,List.cons.injEq,Value.slice.injEq,and_true] at hcs
  obtain⟨rfl,rfl,rfl⟩:=hcs
  exact⟨[],⟨none,0,rfl,A4C _,fun _=>rfl,fun h=>absurd rfl h⟩,by simp⟩
 ·simp only[Value.cells,List.cons.injEq,Value.slice.injEq,and_true] at hcs
  obtain⟨rfl,rfl,rfl⟩:=hcs
  have hlm:len0≤m:=by rw[hm];split<;>omega
  have key:∀i,i<len0→∃x:UInt8,w.cell? (a.add i)=some (bv x):=by
   intro i hi
   obtain⟨h1,h2⟩:=hx i H6
   obtain⟨x,e4,_,wf⟩:=DataW.trod_int he h2
   simp at e4
   have q1:IntKind.u8.min=0:=rfl
   have q2:IntKind.u8.max=255:=rfl
   simp only[Lit.wf,A4P,decide_eq_true_eq] at wf
   refine⟨UInt8.ofNat x.toNat,?_⟩
   rw[h1,e4]
   simp only[bv]
   have:((UInt8.ofNat x.toNat).toNat:Int)=x:=by simp;omega
   rw[this]
  refine⟨(List.range len0).map fun i=>if hi:i<len0 then (key i hi).choose else 0,⟨some a,cap0,by simp,by simp;omega,(fun h=>by cases h),fun hne=>?_⟩,by simp;omega⟩
  have h0:0<len0:=by
   rcases Nat.eq_zero_or_pos len0 with rfl|h
   ·exact absurd rfl hne
   ·exact h
  obtain⟨x0,hk0⟩:=key 0 h0
  rw[show a.add 0=a by simp[Addr.add]] at hk0
  obtain⟨b,o,cs,t2,e2,rfl,hb,_⟩:=blk_of_cell hk0
  refine⟨b,o,cs,t2,e2,rfl,hb,fun i x hi=>?_⟩
  have hil:i<len0:=by have:=(A4v.1 hi).1;simpa using this
  have hk:x=(key i hil).choose:=by
   simp[hil] at hi
   exact hi.symm
  have h2:=(key i hil).choose_spec
  rw[←hk,A0m,cell_of_row w b (o+i) cs t2 e2 hb] at h2
  exact h2
end
section
open Go.RowKit
structure Gr(w0 wr:World)(e size:Nat)(v:Value)(n:Nat)(xs:List Value)(L:List (Nat × Array Value × TypeId)):Prop where
 own:wr.ownsRow w0.heap.size e size v n xs
 st:St w0 wr L
 apart:∀g,v.ownBlock=some g→g∉L.map (·.1)
theorem ownsRow_below{w w':World}{base e size n:Nat}{v:Value}{xs:List Value}(h:w.ownsRow base e size v n xs)(hb:Below w.heap.size w w'):w'.ownsRow base e size v n xs:=by
 refine⟨h.1,?_⟩
 rcases h.2 with h2|⟨g,cap,cur,h1,h2,h3,h4⟩
 ·exact .inl h2
 ·exact .inr ⟨g,cap,cur,h1,h2,(hb.block g (A4H.1 h3).1).trans h3,h4⟩
theorem Gr.nil{w0 wr:World}{e size:Nat}{L:List (Nat × Array Value × TypeId)}(h:St w0 wr L):Gr w0 wr e size (.slice none 0 0) 0 [] L :=
 ⟨World.ownsRow_nil wr _ e size,h,fun g hg=>by simp[Value.ownBlock] at hg⟩
theorem Gr.of{w0 wr:World}{e size g n cap:Nat}{cs:Array Value}{L:List (Nat × Array Value × TypeId)}(h:St w0 wr ((g,cs,e)::L))(hn:n≤cap)(hc:cap≤maxLen)(hs:cs.size=cap*size) :
  Gr w0 wr e size (.slice (some ⟨g,0,none⟩) n cap) n (cs.toList.take (n*size)) L:=by
 have h0:=h.2.1 _ (A4t ..)
 refine⟨⟨?_,.inr ⟨g,cap,cs,rfl,h0.1,h0.2,hn,hc,hs,rfl⟩⟩,h.tail,fun b hb=>?_⟩
 ·rw[A4u,A5z,hs]
  exact A6b (Nat.mul_le_mul_right _ hn)
 ·simp only[Value.ownBlock,Option.some.injEq] at hb
  subst hb
  exact(A5o.1 (by simpa using h.2.2)).1
theorem Gr.lt{w0 wr:World}{e size n g:Nat}{v:Value}{xs:List Value}{L:List (Nat × Array Value × TypeId)}(h:Gr w0 wr e size v n xs L)(hg:v.ownBlock=some g):g<wr.heap.size:=by
 rcases h.own.2 with⟨rfl,_⟩|⟨g',cap,cur,rfl,_,h3,_⟩
 ·simp[Value.ownBlock] at hg
 ·simp only[Value.ownBlock,Option.some.injEq] at hg
  subst hg
  exact(A4H.1 h3).1
theorem Gr.alloc{w0 wr:World}{e size n:Nat}{v:Value}{xs:List Value}{L:List (Nat × Array Value × TypeId)}(h:Gr w0 wr e size v n xs L)(cs:Array Value)(t:TypeId):Gr w0 (wr.alloc (.cells cs t)) e size v n xs ((wr.heap.size,cs,t)::L):=by
 refine⟨ownsRow_below h.own ((Below.refl _ _).alloc (A4C _) _),h.st.alloc cs t,fun g hg hm=>?_⟩
 simp only[A5f,A4O] at hm
 rcases hm with h1|h1
 ·have:=h.lt hg;omega
 ·exact h.apart g hg h1
theorem Gr.setRow{w0 wr:World}{e size n:Nat}{v:Value}{xs:List Value}{L:List (Nat × Array Value × TypeId)}(h:Gr w0 wr e size v n xs L)(i:Nat){b:Nat}{cs:Array Value}{t:TypeId}(hi:L[i]?=some (b,cs,t))(cs':Array Value) :
  Gr w0 (wr.setRow b cs') e size v n xs (L.set i (b,cs',t)):=by
 have hil:i<L.length:=(A4v.1 hi).1
 have hk:(L.set i (b,cs',t)).map (·.1)=L.map (·.1):=by
  rw[List.map_set]
  have:b=(L.map (·.1))[i]'(by simpa using hil):=by
   have:=(A4v.1 hi).2
   simp[this]
  simp only[this,List.set_getElem_self]
 have hbL:b∈L.map (·.1):=A4I.2 ⟨_,A5a hi,rfl⟩
 refine⟨⟨h.own.1,?_⟩,h.st.setRow i hi cs',fun g hg=>by rw[hk];exact h.apart g hg⟩
 rcases h.own.2 with h2|⟨g,cap,cur,rfl,h2,h3,h4⟩
 ·exact .inl h2
 ·have hne:g≠b:=fun e=>h.apart g rfl (e ▸ hbL)
  exact .inr ⟨g,cap,cur,rfl,h2,(setRow_other wr b g cs' hne).trans h3,h4⟩
theorem Gr.open{w0 wr:World}{e size n:Nat}{v:Value}{xs:List Value}{L:List (Nat × Array Value × TypeId)}(h:Gr w0 wr e size v n xs L)(hn:v≠.slice none 0 0) :
  ∃g cap cur,v=.slice (some ⟨g,0,none⟩) n cap∧n≤cap∧cap≤maxLen∧cur.size=cap*size∧cur.toList.take (n*size)=xs∧St w0 wr ((g,cur,e)::L):=by
 rcases h.own.2 with⟨rfl,_⟩|⟨g,cap,cur,rfl,h2,h3,h4,h5,h6,h7⟩
 ·exact absurd rfl hn
 ·refine⟨g,cap,cur,rfl,h4,h5,h6,h7,h.st.1,fun x hx=>?_,?_⟩
  ·rcases A4O.1 hx with rfl|hx
   ·exact⟨h2,h3⟩
   ·exact h.st.2.1 x hx
  ·simp only[A5f,A5o]
   exact⟨h.apart g rfl,h.st.2.2⟩
def SrcAt(w:World)(v:Value)(size m:Nat)(news:List Value):Prop :=
 news.length=m*size∧(∀u∈news,u.oneCell'=true)∧((v=.slice none 0 0∧m=0)∨∃ad c,v=.slice (some ad) m c∧∀j u,news[j]?=some u→w.cell? (ad.add j)=some u)
theorem SrcAt.own{w0 wr:World}{L:List (Nat × Array Value × TypeId)}(h:St w0 wr L)(i:Nat){b:Nat}{cs:Array Value}{t:TypeId}(hi:L[i]?=some (b,cs,t)){size m c:Nat}{news:List Value}(hl:news.length=m*size)(h1:∀u∈news,u.oneCell'=true)
  (hc:∀(j:Nat)(u:Value),news[j]?=some u→cs[j]?=some u):SrcAt wr (.slice (some ⟨b,0,none⟩) m c) size m news :=
 ⟨hl,h1,.inr ⟨_,c,rfl,fun j u hj=>by rw[A0m,A4D,(h.at i hi).2.1 j];exact hc j u hj⟩⟩
def flat(ks:List (List UInt8)):List Value:=ks.flatMap (·.map bv)
theorem A0Q{n:Nat}:∀{ks:List (List UInt8)},(∀k∈ks,k.length=n)→(flat ks).length=ks.length*n
 | [],_=>by simp[flat]
 | k::ks,h=>by
  have h1:=A0Q (ks:=ks) (fun k hk=>h k (A4A _ hk))
  have h2:=h k (A4t ..)
  simp only[flat,A5n,A4p,A4z,A4G] at h1 ⊢
  rw[h1,h2,Nat.add_mul];omega
theorem flat_get{n:Nat}:∀{ks:List (List UInt8)},(∀k∈ks,k.length=n)→∀{i j:Nat}{k:List UInt8}{x:UInt8},ks[i]?=some k→k[j]?=some x→(flat ks)[i*n+j]?=some (bv x)
 | [],_,i,j,k,x,h1,_=>by simp at h1
 | k0::ks,h,i,j,k,x,h1,h2=>by
  have hk0:=h k0 (A4t ..)
  cases i with
  | zero =>
   simp only[List.getElem?_cons_zero,Option.some.injEq] at h1
   subst h1
   have hj:j<k0.length:=(A4v.1 h2).1
   simp only[flat,A5n,A5I,A4D]
   rw[A4M G1]
   simp[h2]
  | succ i =>
   have ih:=flat_get (ks:=ks) (fun k hk=>h k (A4A _ hk)) (by simpa using h1) h2
   simp only[flat,A5n] at ih ⊢
   rw[A4Q (by rw[A4z,hk0,Nat.add_mul];omega),A4z,hk0,show (i+1)*n+j - n=i*n+j by rw[Nat.add_mul];omega]
   exact ih
theorem row_of_flat{n:Nat}(hn:0<n){ks:List (List UInt8)}(hk:∀k∈ks,k.length=n){cur:Array Value}{m:Nat}(h:cur.toList.take m=flat ks){i:Nat}{k:List UInt8}(hi:ks[i]?=some k) :
  i*n+n≤csz cur∧cut cur (i*n) n=bvs k:=by
 have hkl:=hk k (A5a hi)
 refine cut_of_cells hkl hn fun j x hj=>?_
 have:=flat_get hk hi hj
 rw[←h,A5h] at this
 split at this
 ·simpa using this
 ·cases this
end
section
open Go.ChangeShapes Go.WideShapes Go.ChangeAt Go.RowKit
section
theorem wp_make{P:Program}{ops:Array Oper}{rest:List Oper}{o:Oper}{a:Act}{Q:Exit→Act→World→Prop}{w0 w:World}{t e size bytes:Nat}(hE:elemB P t e size bytes=true)(hgd:o.guard=none){l c:Operand}
  (ho:o.op=.makeSlice t l c){L:List (Nat × Array Value × TypeId)}(hS:St w0 w L){kl kc:IntKind}{C:Int}(n:Nat)(hl:a.eval l=.int kl 0)(hc:a.eval c=.int kc C)(hC:C=(n:Int))(hb:bytes*n≤281474976710656)(hn:n≤maxLen)
  (h:∀w',Gr w0 w' e size (.slice (some ⟨w.heap.size,0,none⟩) 0 n) 0 [] L→wpList P ops Q rest (a.put o.dst (.slice (some ⟨w.heap.size,0,none⟩) 0 n)) w'):wpList P ops Q (o::rest) a w:=by
 obtain⟨ht,i,z,hi,hz,hsz,hby,_⟩:=elemB_iff hE
 refine wpList_make_own w hgd l c t ho w0.heap.size e i z size ht hi hz hsz kl kc C n hl hc hC (by rw[hby];exact hb) hn hS.1.size fun w' h1 h2=>h w' ⟨h1,?_,?_⟩
 ·refine⟨hS.1.trans ⟨h2.os,h2.tape,h2.output,h2.size,fun k hk=>h2.block k (by have:=hS.1.size;omega) (fun h=>by cases h)⟩,fun y hy=>⟨(hS.2.1 y hy).1,(h2.block _ (J5 (hS.2.1 y hy).2) (fun h=>by cases h)).trans (hS.2.1 y hy).2⟩,hS.2.2⟩
 ·intro g hg hm
  simp only[Value.ownBlock,Option.some.injEq] at hg
  obtain⟨y,hy,he⟩:=A4I.1 hm
  have:=J5 (hS.2.1 y hy).2
  omega
end
section
theorem len16{l:List UInt8}(h:l.length=16):∃a0 a1 a2 a3 a4 a5 a6 a7 a8 a9 a10 a11 a12 a13 a14 a15:UInt8,l=[a0,a1,a2,a3,a4,a5,a6,a7,a8,a9,a10,a11,a12,a13,a14,a15]:=by
 match l,h with
 | [a0,a1,a2,a3,a4,a5,a6,a7,a8,a9,a10,a11,a12,a13,a14,a15],_=>exact⟨a0,a1,a2,a3,a4,a5,a6,a7,a8,a9,a10,a11,a12,a13,a14,a15,rfl⟩
theorem len4{l:List UInt8}(h:l.length=4):∃a0 a1 a2 a3:UInt8,l=[a0,a1,a2,a3]:=by
 match l,h with
 | [a0,a1,a2,a3],_=>exact⟨a0,a1,a2,a3,rfl⟩
theorem zs16_is:zs 16=[0,0,0,0,0,0,0,0,0,0,0,0,0,0,0,0]:=by unfold zs;rfl
theorem zs4_is:zs 4=[0,0,0,0]:=by unfold zs;rfl
def shPart(l:List UInt8):Nat→List UInt8
 | 0=>zs 16
 | k+1=>(shPart l k).set k (l.getD ((k+4*(k % 4)) % 16) 0)
theorem A3v(l:List UInt8)(k:Nat):(shPart l k).length=16:=by
 induction k with
 | zero=>exact zs_len 16
 | succ k ih=>simp[shPart,ih]
theorem shPart_succ(l:List UInt8)(k:Nat):shPart l (k+1)=(shPart l k).set k (l.getD ((k+4*(k % 4)) % 16) 0):=rfl
theorem shPart_zero(l:List UInt8):shPart l 0=zs 16:=rfl
def unPart(l:List UInt8):Nat→List UInt8
 | 0=>zs 16
 | k+1=>(unPart l k).set ((k+4*(k % 4)) % 16) (l.getD k 0)
theorem A0b(l:List UInt8)(k:Nat):(unPart l k).length=16:=by
 induction k with
 | zero=>exact zs_len 16
 | succ k ih=>simp[unPart,ih]
theorem unPart_succ(l:List UInt8)(k:Nat):unPart l (k+1)=(unPart l k).set ((k+4*(k % 4)) % 16) (l.getD k 0):=rfl
theorem unPart_zero(l:List UInt8):unPart l 0=zs 16:=rfl
theorem shift_is{l:List UInt8}{a0 a1 a2 a3 a4 a5 a6 a7 a8 a9 a10 a11 a12 a13 a14 a15:UInt8}(h:l=[a0,a1,a2,a3,a4,a5,a6,a7,a8,a9,a10,a11,a12,a13,a14,a15]) :
  shPart l 16=[a0,a5,a10,a15,a4,a9,a14,a3,a8,a13,a2,a7,a12,a1,a6,a11]:=by
 subst h;simp only[shPart,zs16_is];rfl
theorem unshift_is{l:List UInt8}{a0 a1 a2 a3 a4 a5 a6 a7 a8 a9 a10 a11 a12 a13 a14 a15:UInt8}(h:l=[a0,a1,a2,a3,a4,a5,a6,a7,a8,a9,a10,a11,a12,a13,a14,a15]) :
  unPart l 16=[a0,a13,a10,a7,a4,a1,a14,a11,a8,a5,a2,a15,a12,a9,a6,a3]:=by
 subst h;simp only[unPart,zs16_is];rfl
theorem unshift_shift{l:List UInt8}(h:l.length=16):unPart (shPart l 16) 16=l:=by
 obtain⟨a0,a1,a2,a3,a4,a5,a6,a7,a8,a9,a10,a11,a12,a13,a14,a15,rfl⟩:=len16 h
 rw[shift_is rfl,unshift_is rfl]
attribute [irreducible] shPart unPart
end
section
def Beg(cur:Array Value)(m:Nat)(xs:List Value):Prop:=cur.size=m∧cur.toList.take xs.length=xs
theorem Beg.write{cur:Array Value}{m:Nat}{xs:List Value}(h:Beg cur m xs)(news:List Value)(hm:xs.length+news.length≤m):Beg ((cur.toList.take xs.length++(news++cur.toList.drop (xs.length+news.length))).toArray) m (xs++news):=by
 obtain⟨h1,h2⟩:=h
 refine⟨by simp;omega,?_⟩
 rw[h2]
 show (xs++(news++_)).take (xs++news).length=xs++news
 rw[←A4E]
 exact List.take_left
theorem Beg.nil(cur:Array Value)(m:Nat)(h:cur.size=m):Beg cur m []:=⟨h,by simp⟩
theorem Beg.row{cur:Array Value}{m n:Nat}{ks:List (List UInt8)}(h:Beg cur m (flat ks))(hn:0<n)(hk:∀k∈ks,k.length=n){i:Nat}{k:List UInt8}(hi:ks[i]?=some k):i*n+n≤csz cur∧cut cur (i*n) n=bvs k :=
 row_of_flat hn hk h.2 hi
theorem U4{c:List UInt8}:∀v∈c.map bv,v.oneCell'=true:=fun v hv=>by
 obtain⟨b,_,rfl⟩:=A4I.1 hv
 rfl
theorem Q8{P:Program}{ops:Array Oper}{rest:List Oper}{o:Oper}{a:Act}{Q:Exit→Act→World→Prop}{w0 w:World}{t e size bytes:Nat}(hE:elemB P t e size bytes=true)(hgd:o.guard=none){s x:Operand}
  (ho:o.op=.call { callee:=.builtin .append,args:=#[s,x],argTypes:=#[t,t] }){L:List (Nat × Array Value × TypeId)}(hS:St w0 w L)(i:Nat){g n cap:Nat}{cur:Array Value}(hi:L[i]?=some (g,cur,e))(hs:a.eval s=.slice (some ⟨g,0,none⟩) n cap)
  {ad:Addr}{m c:Nat}{xs news:List Value}(hB:Beg cur (cap*size) xs)(hxl:xs.length=n*size)(hx:a.eval x=.slice (some ad) m c)(hsrc:SrcAt w (.slice (some ad) m c) size m news)(hroom:n+m≤cap)
  (h:∀cur',Beg cur' (cap*size) (xs++news)→St w0 (w.setRow g cur') (L.set i (g,cur',e))→wpList P ops Q rest (a.put o.dst (.slice (some ⟨g,0,none⟩) (n+m) cap)) (w.setRow g cur')):wpList P ops Q (o::rest) a w:=by
 obtain⟨ht,ie,z,hie,hz,hsz,hby,hzs,hpos⟩:=elemB_iff hE
 obtain⟨hl,h1,hv⟩:=hsrc
 rcases hv with⟨h2,_⟩|⟨ad2,c2,h2,hnews⟩
 ·cases h2
 ·simp only[Value.slice.injEq,Option.some.injEq] at h2
  obtain⟨rfl,_,rfl⟩:=h2
  have hfit:xs.length+news.length≤cap*size:=by rw[hxl,hl,←Nat.add_mul];exact Nat.mul_le_mul_right _ hroom
  refine wpList_plain hgd fun K hK=>?_
  have hrun:=run_append_room (P:=P) w t o.type e ie ht hie g n cap cur (hS.blk i hi) ad m c news (by rw[hsz];exact hl) hnews h1 hroom (by rw[hsz,←hxl,hB.1];exact hfit)
  rw[hsz,←hxl,A4E] at hrun
  have hB2:=hB.write news hfit
  have hS2:=hS.setRow i hi ((cur.toList.take xs.length++(news++cur.toList.drop (xs.length+news.length))).toArray)
  unfold Oper.wp
  simp[execOp,ho,resolve,invoke,builtin,hs,hx,hrun,Result.andThen]
  exact hK _ _ (h _ hB2 hS2)
theorem A4g{P:Program}{ops:Array Oper}{rest:List Oper}{o:Oper}{a:Act}{Q:Exit→Act→World→Prop}{w0 w:World}{t e size bytes:Nat}(hE:elemB P t e size bytes=true)(hgd:o.guard=none){l c:Operand}
  (ho:o.op=.makeSlice t l c){L:List (Nat × Array Value × TypeId)}(hS:St w0 w L){kl kc:IntKind}{N C:Int}(n:Nat)(hl:a.eval l=.int kl N)(hc:a.eval c=.int kc C)(hN:N=(n:Int))(hC:C=(n:Int))(hb:bytes*n≤281474976710656)(hn:n≤maxLen)
  (h:∀w' cur,cur.size=n*size→(∀z,(P.info? e).bind (·.zero)=some z→cur.toList=(madeCells z.cells (n*size)).toList)→St w0 w' ((w.heap.size,cur,e)::L)→wpList P ops Q rest (a.put o.dst (.slice (some ⟨w.heap.size,0,none⟩) n n)) w'):wpList P ops Q (o::rest) a w:=by
 obtain⟨ht,i,z,hi,hz,hsz,hby,_⟩:=elemB_iff hE
 refine wpList_make_full w hgd l c t ho w0.heap.size e i z size ht hi hz hsz kl kc N C n hl hc hN hC (by rw[hby];exact hb) hn hS.1.size fun w' h1 h2=>?_
 rcases h1.2 with⟨h3,_⟩|⟨g,cap,cur,h3,h4,h5,h6,h7,h8,h9⟩
 ·cases h3
 ·simp only[Value.slice.injEq,Option.some.injEq,Addr.mk.injEq,true_and] at h3
  obtain⟨⟨rfl,_⟩,rfl⟩:=h3
  rw[A4B G7] at h9
  refine h w' cur h8 (fun z' hz'=>?_) ⟨hS.1.trans ⟨h2.os,h2.tape,h2.output,h2.size,fun k hk=>h2.block k (by have:=hS.1.size;omega) (fun h=>by cases h)⟩,fun y hy=>?_,?_⟩
  ·rw[hi] at hz'
   simp only[Option.bind_some,hz,Option.some.injEq] at hz'
   subst hz'
   exact h9
  ·rcases A4O.1 hy with rfl|hy
   ·exact⟨h4,h5⟩
   ·exact⟨(hS.2.1 y hy).1,(h2.block _ (J5 (hS.2.1 y hy).2) (fun h=>by cases h)).trans (hS.2.1 y hy).2⟩
  ·simp only[A5f,A5o]
   refine⟨fun hm=>?_,hS.2.2⟩
   obtain⟨y,hy,he⟩:=A4I.1 hm
   have:=J5 (hS.2.1 y hy).2
   omega
theorem Gr.cells0{w0 wr:World}{e size cap g:Nat}{L:List (Nat × Array Value × TypeId)}(h:Gr w0 wr e size (.slice (some ⟨g,0,none⟩) 0 cap) 0 [] L):∃cur,cur.size=cap*size∧St w0 wr ((g,cur,e)::L):=by
 obtain⟨g2,cap2,cur,hv,_,_,hs,_,hS⟩:=h.open (fun h=>by cases h)
 simp only[Value.slice.injEq,Option.some.injEq,Addr.mk.injEq,true_and] at hv
 obtain⟨⟨rfl,_⟩,rfl⟩:=hv
 exact⟨cur,hs,hS⟩
def buildSliceW(t:TypeId)(n:Nat)(parts:Array (Nat × Value)):Sem Value:=if n=n then Instr.buildSlice t n parts else Instr.buildSlice t n parts
@[go_sem ↓] theorem buildSlice_words(n:Nat)(parts:Array (Nat × Value)):Instr.buildSlice 224 n parts=buildSliceW 224 n parts:=by unfold buildSliceW;rw[if_pos rfl]
@[go_sem] theorem run_words1(l:List UInt8)(h:csz (bvs l)=4)(w:World):(buildSliceW 224 1 #[(0,.agg (bvs l))]).run Tryz.prog w=.ok (.slice (some ⟨w.heap.size,0,none⟩) 1 1) (w.alloc (.cells (bvs l) 225)):=by
 have h0:(Tryz.prog.info? 225).map (fun i=>(i.zero,i.size))=some (some (.agg (bvs (zs 4))),4):=by rw[←zs4];kernel_rfl
 cases hi:Tryz.prog.info? 225 with
 | none=>rw[hi] at h0;cases h0
 | some i =>
  rw[hi] at h0
  simp only[A5J,Option.some.injEq,Prod.mk.injEq] at h0
  unfold buildSliceW
  rw[if_pos rfl]
  refine run_buildSlice w 224 225 1 _ _ i _ Tryz.underlying224 hi h0.1 (by rw[h0.2];decide) (by rw[h0.2];decide) ?_
  rw[h0.2]
  rw[I2] at h
  obtain⟨a,b,c,d,rfl⟩:=len4 h
  rw[←zs4]
  kernel_rfl
end
section
def ovw(cur:Array Value)(o:Nat)(l:List UInt8):Array Value:=(cur.toList.take o++(l.map bv++cur.toList.drop (o+l.length))).toArray
theorem ovw_size{cur:Array Value}{o:Nat}{l:List UInt8}(h:o+l.length≤cur.size):(ovw cur o l).size=cur.size:=by
 unfold ovw;simp;omega
theorem ovw_nil(cur:Array Value)(o:Nat):ovw cur o []=cur:=by
 unfold ovw;simp
theorem ovw_snoc{cur:Array Value}{o:Nat}{l:List UInt8}(h:o+l.length<cur.size)(b:UInt8):(ovw cur o l).setIfInBounds (o+l.length) (bv b)=ovw cur o (l++[b]):=by
 have h1:(cur.toList.take o).length=o:=by simp;omega
 have h2:o+l.length<cur.toList.length:=by simpa using h
 unfold ovw
 rw[A4q,A5Q _ _ H6,h1,A5g,A5Q _ _ H7,A4z,A6E,A6q h2,A4r]
 simp[A6c]
theorem O4(x l:List UInt8)(o:Nat):ovw (bvs x) o l=bvs (x.take o++(l++x.drop (o+l.length))):=by
 unfold ovw bvs
 simp[A6g,A6m]
def leB(n:Nat):Nat→List UInt8
 | 0=>[]
 | k+1=>leB n k++[UInt8.ofNat (n / 256 ^ k)]
theorem leB_zero(n:Nat):leB n 0=[]:=rfl
theorem A2q(n k:Nat):leB n (k+1)=leB n k++[UInt8.ofNat (n / 256 ^ k)]:=rfl
theorem A0h(n k:Nat):(leB n k).length=k:=by
 induction k with
 | zero=>rfl
 | succ k ih=>simp[A2q,ih]
theorem A3T(n k:Nat):leB n (k+1)=UInt8.ofNat n::leB (n / 256) k:=by
 induction k with
 | zero=>simp[leB]
 | succ k ih =>
  rw[A2q,ih,A2q (n / 256) k,A4K,Nat.div_div_eq_div_mul,A6w,A6j]
def leN:List UInt8→Nat
 | []=>0
 | b::l=>b.toNat+256*leN l
theorem leN_lt:∀l:List UInt8,leN l<256 ^ l.length
 | []=>by simp[leN]
 | b::l=>by
  have h:=leN_lt l
  have hb:=b.toNat_lt
  simp only[leN,A4G,A6w]
  omega
theorem leN_leB(n k:Nat):leN (leB n k)=n % 256 ^ k:=by
 induction k generalizing n with
 | zero=>simp[leB,leN,Nat.mod_one]
 | succ k ih =>
  rw[A3T,leN,ih]
  rw[A6w,A6j (256 ^ k) 256,Nat.mod_mul]
  simp
theorem leB_leN:∀l:List UInt8,leB (leN l) l.length=l
 | []=>rfl
 | b::l=>by
  have hb:=b.toNat_lt
  rw[A4G,A3T,leN]
  rw[show (b.toNat+256*leN l) / 256=leN l by omega,leB_leN l]
  congr 1
  apply UInt8.toNat_inj.1
  rw[UInt8.toNat_ofNat']
  omega
theorem ovw_cons{cur:Array Value}{o:Nat}{l:List UInt8}(h:o+1+l.length≤cur.size)(b:UInt8):(ovw cur (o+1) l).setIfInBounds o (bv b)=ovw cur o (b::l):=by
 have ho:o<cur.toList.length:=by simp;omega
 have h1:(cur.toList.take o).length=o:=by simp;omega
 unfold ovw
 rw[A5t ho,A4E,A4q,A5Q _ _ H6,h1,A6E,A4G,show o+(l.length+1)=o+1+l.length by omega]
 rfl
def beB(n k:Nat):List UInt8:=(leB n k).reverse
def beN(l:List UInt8):Nat:=leN l.reverse
theorem beB_zero(n:Nat):beB n 0=[]:=rfl
theorem beB_succ(n k:Nat):beB n (k+1)=UInt8.ofNat (n / 256 ^ k)::beB n k:=by
 unfold beB;rw[A2q,List.reverse_append];rfl
theorem K9(n k:Nat):(beB n k).length=k:=by unfold beB;rw[List.length_reverse,A0h]
theorem A3O(l:List UInt8)(b:UInt8):beN (l++[b])=b.toNat+256*beN l:=by
 unfold beN;rw[List.reverse_append];rfl
theorem beN_nil:beN []=0:=rfl
theorem beN_lt(l:List UInt8):beN l<256 ^ l.length:=by
 have:=leN_lt l.reverse
 rwa [List.length_reverse] at this
theorem A3d(l:List UInt8):beB (beN l) l.length=l:=by
 unfold beB beN
 have:=leB_leN l.reverse
 rw[List.length_reverse] at this
 rw[this,List.reverse_reverse]
theorem A3b(n k:Nat):beN (beB n k)=n % 256 ^ k:=by
 unfold beB beN
 rw[List.reverse_reverse,leN_leB]
attribute [irreducible] ovw leB leN beB beN
end
end
end Go.Proofs.YtggbbafanhceaaaGreatRR
