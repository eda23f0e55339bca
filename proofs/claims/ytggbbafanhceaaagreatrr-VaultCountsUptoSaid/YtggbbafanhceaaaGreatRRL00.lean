/-
  Laws that the claims of this seat use, of several texts in one. No condition of their own.
-/
import Derived.Test.YtggbbafanhceaaaGreatRRRows
import Derived.ProofKit
import Derived.SizedLaws
import Derived.OpenShut
import Derived.WalkKit
import Derived.WalkSpells
import Derived.WalkLawsBesides
import Derived.BigQuiet
import Derived.Deep.QuietTactic
import Derived.Deep.RegionHeld3
import Derived.Deep.DeepCutAuto
import Derived.Deep.LoopGhost
import Derived.Deep.DeepMust
import Derived.Deep.DeepFit
import Derived.RangeFuncCalls
import Derived.RangeFuncLeaves
import Derived.RangeFuncRecord
import Derived.OwnWalkIn
import Derived.TacticsInMore
import Derived.LoopNIn
import Derived.LoopIn
import Derived.Sort.LoopGhostIn
import Derived.Deep.Slices
import Derived.Maps.AppendAt
import Derived.Laws.AppendOwnNone
import Derived.OwnWalk
import Derived.Great.BuildSlice
import Derived.Laws.IdiomStrings
import Derived.Lib.BufferRead
import Derived.Laws.CopyOwn
import Derived.Laws.Cover3
import Derived.Laws.CopyRow
import Derived.Laws.IdiomCopy
import Derived.Lib.AppendZeros
import Derived.Laws.Tables
import Derived.Lib.AppendZerosOnto
import Derived.Lib.Overlaps
import Derived.Laws.Externs
import Derived.Maps.OwnOps
import Derived.Maps.Views
import Derived.Laws.StructEq
import Derived.Sort.MapsRangeIn
import Derived.Lib.Bytealg
import Derived.Lib.BytesEntry
import Derived.Maps.Ext
import Derived.Shelf.SlSortCmp.WholeK
import Derived.OrdersIn
import Derived.TacticsIn
import Derived.JoinedCond
set_option maxRecDepth 100000
set_option maxHeartbeats 8000000
set_option linter.all false
namespace Go.Proofs.YtggbbafanhceaaaGreatRR
def A4o:=@Array.getElem?_toList
def A4p:=@List.length_append
def A4q:=@List.setIfInBounds_toArray
def A4r:=@List.set_cons_zero
def A4s:=@List.set_cons_succ
def A4t:=@List.mem_cons_self
def A4u:=@List.length_take
def A4v:=@List.getElem?_eq_some_iff
def A4w:=@List.getElem?_toArray
def A4x:=@List.nil_append
def A4y:=@List.getElem?_eq_getElem
def A4z:=@List.length_map
def A4A:=@List.mem_cons_of_mem
def A4B:=@List.take_of_length_le
def A4C:=@Nat.le_refl
def A4D:=@Nat.zero_add
def A4E:=@List.append_assoc
def A4F:=@List.drop_of_length_le
def A4G:=@List.length_cons
def A4H:=@Array.getElem?_eq_some_iff
def A4I:=@List.mem_map
def A4J:=@List.length_drop
def A4K:=@List.cons_append
def A4L:=@List.take_append_drop
def A4M:=@List.getElem?_append_left
def A4N:=@List.map_append
def A4O:=@List.mem_cons
def A4P:=@Bool.and_eq_true
def A4Q:=@List.getElem?_append_right
def A4R:=@List.getD_eq_getElem?_getD
def A4S:=@List.append_nil
def A4T:=@Nat.le_trans
def A4U:=@List.getElem?_map
def A4V:=@List.size_toArray
def A4W:=@List.length_nil
def A4X:=@List.mem_append_right
def A4Y:=@List.take_zero
def A4Z:=@List.take_append_of_le_length
def A5a:=@List.mem_of_getElem?
def A5b:=@List.not_mem_nil
def A5c:=@List.mem_append
def A5d:=@Int.toNat_natCast_add_one
def A5e:=@Int.toNat_natCast
def A5f:=@List.map_cons
def A5g:=@Nat.add_sub_cancel_left
def A5h:=@List.getElem?_take
def A5i:=@List.eraseIdx_cons_zero
def A5j:=@List.eraseIdx_cons_succ
def A5k:=@List.take_left'
def A5l:=@List.drop_append_of_le_length
def A5m:=@Array.getElem?_eq_none
def A5n:=@List.flatMap_cons
def A5o:=@List.nodup_cons
def A5p:=@List.all_eq_true
def A5q:=@Int.ofNat_eq_natCast
def A5r:=@Array.replicate_succ
def A5s:=@Array.replicate_zero
def A5t:=@List.take_succ_eq_append_getElem
def A5u:=@List.append_toArray
def A5v:=@List.getElem?_eq_none
def A5w:=@List.mem_singleton
def A5x:=@Nat.mul_one
def A5y:=@Array.getElem?_setIfInBounds_ne
def A5z:=@Array.length_toList
def A5A:=@List.drop_replicate
def A5B:=@List.eq_nil_iff_forall_not_mem
def A5C:=@Nat.add_zero
def A5D:=@Array.ext_getElem?
def A5E:=@List.push_toArray
def A5F:=@List.length_set
def A5G:=@List.getElem?_drop
def A5H:=@Nat.sub_zero
def A5I:=@Nat.zero_mul
def A5J:=@Option.map_some
def A5K:=@List.mem_range
def A5L:=@Int.toNat_zero
def A5M:=@Nat.one_mul
def A5N:=@Int.toNat_one
def A5O:=@List.drop_append
def A5P:=@List.drop_left'
def A5Q:=@List.set_append_right
def A5R:=@List.mem_append_left
def A5S:=@List.take_add_one
def A5T:=@Array.getElem?_setIfInBounds_self_of_lt
def A5U:=@List.extract_eq_take_drop
def A5V:=@List.drop_zero
def A5W:=@List.drop_drop
def A5X:=@List.ext_getElem?
def A5Y:=@Int.cast_ofNat_Int
def A5Z:=@Int.add_sub_cancel
def A6a:=@Int.sub_add_cancel
def A6b:=@Nat.min_eq_left
def A6c:=@Nat.add_assoc
def A6d:=@Nat.mod_eq_of_lt
def A6e:=@List.eq_nil_of_length_eq_zero
def A6f:=@Nat.lt_of_lt_of_le
def A6g:=@List.map_take
def A6h:=@Int.natCast_zero
def A6i:=@Bool.or_eq_true
def A6j:=@Nat.mul_comm
def A6k:=@Array.getElem?_extract
def A6l:=@List.length_range
def A6m:=@List.map_drop
def A6n:=@List.perm_append_comm_assoc
def A6o:=@List.getElem?_cons_succ
def A6p:=@List.nodup_append
def A6q:=@List.drop_eq_getElem_cons
def A6r:=@List.countP_le_length
def A6s:=@Array.getElem?_modify
def A6t:=@Nat.lt_or_ge
def A6u:=@List.getElem_mem
def A6v:=@List.mem_of_mem_eraseIdx
def A6w:=@Nat.pow_succ
def A6x:=@Int.zero_add
def A6y:=@Int.add_zero
def A6z:=@Int.sub_zero
def A6A:=@List.mem_of_mem_take
def A6B:=@List.take_length_add_append
def A6C:=@List.foldl_toArray'
def A6D:=@List.getElem?_range
def A6E:=@Nat.sub_self
def A6F:=@List.zip_cons_cons
def A6G:=@List.zip_nil_right
def A6H:=@List.foldl_cons
def A6I:=@Nat.mul_zero
def A6J:=@Array.toList_extract
def A6K:=@List.take_add
def A6L:=@List.length_pos_iff
def A6M:=@List.take_length
def A6N:=@List.zip_toArray
theorem A3{G:Prop}(h:G:=by repeat (first|(with_reducible exact Below.refl _ _)|(with_reducible assumption)|(with_reducible exact A0N _ _)|(with_reducible exact St.below (by assumption))|(with_reducible refine A1R ?_ _)|(with_reducible refine Below.alloc ?_ (by first|omega|(simp;done)|(simp[go_sem];done)|(simp[go_sem];omega)) _)|(with_reducible exact(St.put1 (by assumption) _).below)|(with_reducible exact(St.put2 (by assumption) _ _).below)|(with_reducible exact(St.put3 (by assumption) _ _ _).below)|(with_reducible exact(St.put4 (by assumption) _ _ _ _).below)|(with_reducible refine below_put ?_ (by first|omega|(simp[go_sem];omega)) _ _)|(with_reducible refine Below.drew ?_)|(with_reducible refine Below.setCell ?_ (by first|omega|(simp[go_sem];omega)) _)|(with_reducible refine below_setRow' ?_ (by first|omega|(simp[go_sem];omega)) _)|(with_reducible refine below_drewN' ?_ _))):G:=h
theorem A4{G:Prop}(h:G:=by(conv=>lhs;simp only[addGs,addG,permL,A5f,List.map_nil,nthL,orD,reO,reG,reE,posL,List.contains_cons,List.contains_nil,Nat.reduceBEq,Bool.or_false,Bool.or_true,Bool.or_self,Bool.false_eq_true,if_true,if_false,Nat.reduceEqDiff,A4D,Nat.reduceAdd,A4K,A4x]);first|done|rfl):G:=h
theorem A5{G:Prop}(h:G:=by repeat (first|exact Below.refl _ _|assumption|refine Below.alloc ?_ (by first|omega|(simp;done)|(simp;omega)) _|refine Below.drew ?_|refine Below.setCell ?_ (by first|omega|(simp;done)|(simp;omega)) _|refine below_setRow' ?_ (by first|omega|(simp;done)|(simp;omega)) _|refine below_drewN' ?_ _)):G:=h
theorem A6{G:Prop}(h:G:=by(try conv=>lhs;simp only[A5e,A5L,A5N,Int.reduceToNat,A5d,A5q,A5x,A5M,A4D,A5C,A5H,A5I,Nat.reduceAdd,Nat.reduceMul,Nat.reduceSub]);first|done|rfl):G:=h
theorem A7{G:Prop}(h:G:=by(try simp only[V6,I2,Q7,A4p,A5F,zs_len,A4u,A4J,A4G,A4W,A4z]);first|done|rfl|omega):G:=h
theorem A8{G:Prop}(h:G:=by(try simp only[V6,I2,Q7,A4p,A5F,zs_len,A4u,A4J,A4G,A4W]);first|done|rfl|omega):G:=h
theorem A9{G:Prop}(h:G:=by(try simp only[A4p,A5F,zs_len,A4u,A4J,A4G,A4W,A4z]);omega):G:=h
theorem B0{G:Prop}(h:G:=by(try conv=>lhs;simp only[A4r,A4s,A5i,A5j]);first|done|rfl):G:=h
theorem B4{G:Prop}(h:G:=by first|exact hS.blk 0 rfl|exact hS.blk 1 rfl|exact hS.blk 2 rfl|exact hS.blk 3 rfl|exact hS.blk 4 rfl|exact hS.blk 5 rfl):G:=h
theorem B5{G:Prop}(h:G:=by(try simp only[A4p,A5F,A4G,A4W]);first|done|decide|omega):G:=h
theorem B6{G:Prop}(h:G:=by first|exact Own.mem own_dk hS (by repeat (first|exact hV2|refine A4A _ ?_))):G:=h
theorem B7{G:Prop}(h:G:=by first|exact Own.mem own_dk hS (by repeat (first|exact hb2|refine A4A _ ?_))):G:=h
theorem B8{G:Prop}(h:G:=by first|exact Own.mem own_dk hS (by repeat (first|exact hV|refine A4A _ ?_))):G:=h
theorem B9{G:Prop}(h:G:=by first|exact Own.mem own_dk hZ (by repeat (first|exact hV|refine A4A _ ?_))):G:=h
theorem C3{G:Prop}(h:G:=by(conv=>lhs;simp only[lateL,lateO,A4K,A4x]);first|done|rfl):G:=h
theorem C4{G:Prop}(h:G:=by(try conv=>lhs;simp only[A4r,A4s]);first|done|rfl):G:=h
theorem C5{G:Prop}(h:G:=by repeat (first|with_reducible assumption|refine A4A _ ?_)):G:=h
theorem C6{G:Prop}(h:G:=by rw[←K3];exact(show csz (bvs (zs 64))=64 by rw[I2,zs_len])):G:=h
theorem C7{G:Prop}(h:G:=by rw[A4x,←A4N,A4L];rfl):G:=h
theorem C8{G:Prop}(h:G:=by repeat (first|exact hVm|refine A4A _ ?_)):G:=h
theorem C9{G:Prop}(h:G:=by intro v hv;obtain⟨x,_,rfl⟩:=A4I.1 hv;rfl):G:=h
theorem D0{G:Prop}(h:G:=by rw[←hLl];exact(A4v.1 hj).1):G:=h
theorem D1{G:Prop}(h:G:=by go_simp;first|done|rfl|exact⟨rfl,rfl⟩):G:=h
theorem D2{G:Prop}(h:G:=by simp only[A4p] at hsz;omega):G:=h
theorem D3{G:Prop}(h:G:=by first|(rw[←K3];assumption)|rfl):G:=h
theorem D4{G:Prop}(h:G:=by intro e;rw[e] at hn;simp at hn;omega):G:=h
theorem D5{G:Prop}(h:G:=by have:=HN.out;have:=HNQ.out;omega):G:=h
theorem D6{G:Prop}(h:G:=by rw[f2];exact word_fits (by omega)):G:=h
theorem D7{G:Prop}(h:G:=by rw[A4z,A5x]):G:=h
theorem D8{G:Prop}(h:G:=by first|exact((hS).far hbb).1):G:=h
theorem D9{G:Prop}(h:G:=by first|exact((hS).far hgW).1):G:=h
theorem E3{G:Prop}(h:G:=by first|exact((hS).far hmr).1):G:=h
theorem E4{G:Prop}(h:G:=by rw[A4p];omega):G:=h
theorem E5{G:Prop}(h:G:=by first|exact((hS).far hb).1):G:=h
theorem E6{G:Prop}(h:G:=by first|exact((hZ).far hb).1):G:=h
theorem E7{G:Prop}(h:G:=by first|exact((hS).far hP).1):G:=h
theorem E8{G:Prop}(h:G:=by rw[A4u];omega):G:=h
theorem E9{G:Prop}(h:G:=by rw[A4z];omega):G:=h
theorem F0{G:Prop}(h:G:=by with_reducible assumption):G:=h
theorem F1{G:Prop}(h:G:=by unfold isDefer;rw[hop]):G:=h
theorem F2{G:Prop}(h:G:=by intro args w;kernel_rfl):G:=h
theorem F3{G:Prop}(h:G:=by exact Tryz.underlying221):G:=h
theorem F4{G:Prop}(h:G:=by have:=HNQ.out;omega):G:=h
theorem F5{G:Prop}(h:G:=by intro w;go_simp;rfl):G:=h
theorem F6{G:Prop}(h:G:=by unfold maxLen;omega):G:=h
theorem F7{G:Prop}(h:G:=by first|rfl|simp):G:=h
theorem F8{G:Prop}(h:G:=by rw[zs_len];omega):G:=h
theorem F9{G:Prop}(h:G:=by simpa using hsz):G:=h
theorem G0{G:Prop}(h:G:=by exact at_ 0 rfl):G:=h
theorem G1{G:Prop}(h:G:=by simpa using hj):G:=h
theorem G2{G:Prop}(h:G:=by infer_instance):G:=h
theorem G3{G:Prop}(h:G:=by decide +kernel):G:=h
theorem G5{G:Prop}(h:G:=by simp<;>omega):G:=h
theorem G6{G:Prop}(h:G:=by simpa using h):G:=h
theorem G7{G:Prop}(h:G:=by simp;omega):G:=h
theorem G8{G:Prop}(h:G:=by kernel_rfl):G:=h
theorem G9{G:Prop}(h:G:=by simp[hM]):G:=h
theorem H5{G:Prop}(h:G:=by decide):G:=h
theorem H6{G:Prop}(h:G:=by omega):G:=h
theorem H7{G:Prop}(h:G:=by simp):G:=h
theorem H8{G:Prop}(h:G:=by rfl):G:=h
section
open Go.ChangeShapes Go.WideShapes Go.ChangeAt Go.RowKit
theorem hid{p:Prop}(h:p):Hid p:=h
theorem ret_int{k:IntKind}{a b:Int}(h:a=b):Ending.returned (.int k a)=.returned (.int k b):=by rw[h]
def bv(b:UInt8):Value:=.int .u8 (b.toNat:Int)
def bvs(l:List UInt8):Array Value:=(l.map bv).toArray
theorem A3r{P:Program}{H:Type}{enc:TypeId × Value→H}(hl:laidOutB P=true){W W':World}(hb:Below W.heap.size W W') :
  ∀(ts:List TypeId),(∀t∈ts,P.readableRec t=true∧t<P.types.size)→∀(vs:List Value)(ds:List (DataW H))(ps:List MemPlace),
   DataW.TrodAll enc P W 0 (fun _=>true) true ts vs ds ps→(∀x∈ps,x.block<W.heap.size)→DataW.TrodAll enc P W' 0 (fun b=>decide (b<W.heap.size)) true ts vs ds ps
 | [],_,vs,ds,ps,h,_=>by
  obtain⟨rfl,rfl,rfl⟩:=trodAll_nil h
  exact trodAll_mk0
 | t::ts,ht,vs,ds,ps,h,hlt=>by
  obtain⟨v,vs',d,ds',p,q,rfl,rfl,rfl,h1,h2⟩:=trodAll_cons h
  have k:=ht t H7
  exact trodAll_cons_mk (Below.trod hl k.1 k.2 h1 hb (fun x hx=>hlt x (by simp[hx]))) (A3r hl hb ts (fun t' h'=>ht t' (by simp[h'])) vs' ds' q h2 (fun x hx=>hlt x (by simp[hx])))
end
section
open Go.RowKit
section
theorem bvs_getElem?(l:List UInt8)(k:Nat):(bvs l)[k]?=(l[k]?).map bv:=by simp[bvs]
theorem A0W(l:List UInt8):(bvs l).size=l.length:=by simp[bvs]
theorem U8(l:List UInt8)(k:Nat)(x:UInt8):(bvs l).setIfInBounds k (.int .u8 (x.toNat:Int))=bvs (l.set k x):=by
 simp[bvs,List.map_set];rfl
theorem bvs_at{l:List UInt8}{k:Nat}{x:UInt8}(h:l[k]?=some x):(bvs l)[k]?=some (.int .u8 (x.toNat:Int)):=by rw[bvs_getElem?,h];rfl
theorem A3X{l:List UInt8}{k:Nat}(h:k<l.length):l[k]?=some (l.getD k 0):=by simp[h]
theorem M7{l:List UInt8}{k:Nat}(h:k<l.length):(bvs l)[k]?=some (.int .u8 ((l.getD k 0).toNat:Int)):=bvs_at (A3X h)
theorem bvs_inj{l m:List UInt8}(h:bvs l=bvs m):l=m:=by
 have h':l.map bv=m.map bv:=by simpa[bvs] using h
 refine List.map_inj_right (fun a b h=>?_) |>.1 h'
 simp only[bv,Value.int.injEq,Int.natCast_inj,true_and] at h
 exact UInt8.toNat_inj.1 h
def zs(n:Nat):List UInt8:=List.replicate n 0
theorem zs_len(n:Nat):(zs n).length=n:=by simp[zs]
theorem zs4 : #[Value.int .u8 0,.int .u8 0,.int .u8 0,.int .u8 0]=bvs (zs 4):=rfl
theorem zs16 : #[Value.int .u8 0,.int .u8 0,.int .u8 0,.int .u8 0,.int .u8 0,.int .u8 0,.int .u8 0,.int .u8 0,.int .u8 0,.int .u8 0,.int .u8 0,.int .u8 0,.int .u8 0,.int .u8 0,.int .u8 0,.int .u8 0]=bvs (zs 16):=rfl
@[go_sem] theorem zs_one(n k:Nat)(h:k<n):(bvs (zs n))[k]?=some (.int .u8 0):=by
 rw[bvs_getElem?,zs,List.getElem?_replicate,if_pos h];rfl
attribute [irreducible] zs
def blk(w:World)(i:Nat):Option Obj:=w.heap[i]?
@[go_sem] theorem A0I(w:World)(o:Obj)(i:Nat):blk (w.alloc o) i=if i=w.heap.size then some o else blk w i:=by
 show (w.heap.push o)[i]?=_
 rw[Array.getElem?_push];rfl
@[go_sem] theorem blk_drew(w:World)(i:Nat):blk w.drew i=blk w i:=rfl
@[go_sem] theorem blk_drewN(w:World)(n i:Nat):blk (w.drewN n) i=blk w i:=rfl
@[go_sem] theorem blk_setRow(w:World)(g i:Nat)(cs:Array Value)(h:i≠g):blk (w.setRow g cs) i=blk w i:=setRow_other w g i cs h
@[go_sem] theorem blk_setCell(w:World)(a:Addr)(i:Nat)(v:Value)(h:i≠a.block):blk (w.setCell a v) i=blk w i:=Below.heap_setCell w a v i h
theorem J5{w:World}{i:Nat}{o:Obj}(h:blk w i=some o):i<w.heap.size:=(A4H.1 h).1
def ones(vs:Array Value):Bool:=vs.all (·.oneCell')
@[go_sem] theorem ones_bvs(l:List UInt8):ones (bvs l)=true:=by
 simp[ones,bvs]
 intro a _;rfl
@[go_sem] theorem ones_list(l:List Value):ones l.toArray=l.all (·.oneCell'):=by simp[ones]
attribute [go_sem] Value.oneCell'
@[go_sem] theorem drewN_alloc'(w:World)(n:Nat)(o:Obj):(w.drewN n).alloc o=(w.alloc o).drewN n:=rfl
@[go_sem] theorem drewN_setCell'(w:World)(n:Nat)(a:Addr)(v:Value):(w.drewN n).setCell a v=(w.setCell a v).drewN n:=rfl
@[go_sem] theorem drewN_setRow'(w:World)(n:Nat)(g:Nat)(cs:Array Value):(w.drewN n).setRow g cs=(w.setRow g cs).drewN n:=rfl
@[go_sem] theorem drewN_shape'(w:World)(n r:Nat):(w.drewN n).shape? r=w.shape? r:=rfl
@[go_sem] theorem drew_setRow(w:World)(g:Nat)(cs:Array Value):w.drew.setRow g cs=(w.setRow g cs).drew:=rfl
@[go_sem] theorem setRow_alloc_at(w:World)(c cs:Array Value)(t:TypeId)(fr:Nat × Nat)(n:Nat)(hn:n=w.heap.size):(w.alloc (.cells c t fr)).setRow n cs=w.alloc (.cells cs t fr):=by
 subst hn
 unfold World.setRow World.alloc
 congr 1
 apply Array.ext
 ·simp
 ·intro k h1 h2
  simp only[Array.getElem_modify,Array.getElem_push]
  simp only[Array.size_modify,Array.size_push] at h1
  by_cases h:k<w.heap.size
  ·simp[h];omega
  ·simp[h];omega
@[go_sem] theorem setRow_alloc_past(w:World)(o:Obj)(cs:Array Value)(n:Nat)(hn:n<w.heap.size):(w.alloc o).setRow n cs=(w.setRow n cs).alloc o:=by
 unfold World.setRow World.alloc
 congr 1
 apply Array.ext
 ·simp
 ·intro k h1 h2
  simp only[Array.getElem_modify,Array.getElem_push,Array.size_modify]
  simp only[Array.size_modify,Array.size_push] at h1
  by_cases h:k<w.heap.size
  ·simp[h]
  ·have:n≠k:=by omega
   simp[h,this]
theorem below_setRow'{B:Nat}{a w:World}(h:Below B a w){g:Nat}(hg:B≤g)(cs:Array Value):Below B a (w.setRow g cs) :=
 h.trans ⟨rfl,rfl,rfl,by simp,fun k hk=>setRow_other w g k cs H6⟩
theorem below_drewN'{B:Nat}{a w:World}(h:Below B a w)(n:Nat):Below B a (w.drewN n):=⟨h.os,h.tape,h.output,h.size,h.block⟩
theorem chain{B:Nat}{w W w1:World}(h:Below B w W)(hB:B≤W.heap.size)(hb:Below W.heap.size W w1):Below B w w1:=h.trans (hb.mono hB)
theorem A0B{w:World}{g:Nat}{old:Array Value}{t:TypeId}{fr:Nat × Nat}(h:blk w g=some (.cells old t fr))(cs:Array Value):blk (w.setRow g cs) g=some (.cells cs t fr):=setRow_heap w g old cs t fr h
def csz(cs:Array Value):Nat:=cs.size
@[go_sem] theorem Q7(l:List Value):csz l.toArray=l.length:=by simp[csz]
theorem I2(l:List UInt8):csz (bvs l)=l.length:=A0W l
@[go_sem] theorem csz_zs(n:Nat):csz (bvs (zs n))=n:=by rw[I2,zs_len]
def splice(c:Array Value)(k:Nat)(vs:Array Value):Array Value:=(c.toList.take k++vs.toList++c.toList.drop (k+vs.size)).toArray
theorem Q0{P:Program}(g off:Nat)(t:TypeId):∀(vs:List Value)(i:Nat)(cur:Array Value)(w:World),w.heap[g]?=some (.cells cur t (0,0))→off+i+vs.length≤cur.size→(∀v∈vs,v.oneCell'=true) →
  (storeCells ⟨g,off,none⟩ vs i).run P w=.ok () (w.setRow g (splice cur (off+i) vs.toArray))
 | [],i,cur,w,hg,hl,_=>by
  have hlt:g<w.heap.size:=(A4H.1 hg).1
  have hv:w.heap[g]=.cells cur t (0,0):=(A4H.1 hg).2
  have e:splice cur (off+i) ([]:List Value).toArray=cur:=by simp[splice]
  rw[e]
  show Result.ok () w=_
  congr 1
  unfold World.setRow
  cases w with
  | mk heap tape drawn os output =>
   congr 1
   apply Array.ext
   ·simp
   ·intro k h1 h2
    simp only[Array.getElem_modify]
    split
    ·rename_i hk;subst hk;simp at hv;simp[hv]
    ·rfl
 | v::rest,i,cur,w,hg,hl,h1=>by
  have hi:off+i<cur.size:=by simp at hl;omega
  have hadd:(⟨g,off,none⟩:Addr).add i=⟨g,off+i,none⟩:=by unfold Addr.add;split<;>simp_all
  have hcell:w.cell? ⟨g,off+i,none⟩=some cur[off+i]:=by simp[World.cell?,hg,hi]
  have hfro:w.frozen? ⟨g,off+i,none⟩=false:=by simp[World.frozen?,hg]
  have hst:(store ((⟨g,off,none⟩:Addr).add i) v).run P w=.ok () (w.setRow g (cur.setIfInBounds (off+i) v)):=by
   rw[hadd,run_store P w _ v _ (h1 v H7),hcell]
   simp[hfro,setCell_eq_setRow w g (off+i) cur t (0,0) v hg]
  have ih:=Q0 (P:=P) g off t rest (i+1) (cur.setIfInBounds (off+i) v) (w.setRow g (cur.setIfInBounds (off+i) v)) (setRow_heap w g cur _ t _ hg) (by simp at hl ⊢;omega) (fun x hx=>h1 x (by simp[hx]))
  simp only[storeCells,Sem.run_bind,hst,Result.andThen_ok,ih,setRow_setRow]
  congr 2
  unfold splice
  congr 1
  apply A5X
  intro k
  simp only[Array.toList_setIfInBounds,List.getElem?_append,A4u,A5F,A5z,A4p,A5G,List.getElem?_set]
  by_cases hk:k<off+i
  ·simp[hk,show k<off+(i+1) by omega,show min (off+(i+1)) cur.size=off+(i+1) by omega,show min (off+i) cur.size=off+i by omega,show off+i≠k by omega,show k<off+i+(rest.length+1) by omega,show k<off+(i+1)+rest.length by omega]
  ·by_cases hk2:k=off+i
   ·subst hk2
    simp[show min (off+(i+1)) cur.size=off+(i+1) by omega,show min (off+i) cur.size=off+i by omega,show off+i<off+(i+1) by omega,show off+i<off+(i+1)+rest.length by omega]
   ·have q1:¬k<off+(i+1):=by omega
    simp only[show min (off+(i+1)) cur.size=off+(i+1) by omega,show min (off+i) cur.size=off+i by omega,A4V,A4G]
    by_cases hk3:k<off+(i+1)+rest.length
    ·have e1:k<off+i+(rest.length+1):=by omega
     simp[hk,q1,hk3,e1,show k - (off+i)=(k - (off+(i+1)))+1 by omega]
    ·have e1:¬k<off+i+(rest.length+1):=by omega
     have e2:k - (off+(i+1)+rest.length)=k - (off+i+(rest.length+1)):=by omega
     simp only[hk3,e1,if_false,e2]
     rw[show off+(i+1)+rest.length+(k - (off+i+(rest.length+1)))=k by omega,show off+i+(rest.length+1)+(k - (off+i+(rest.length+1)))=k by omega]
     simp[show off+i≠k by omega]
def isRow(P:Program)(t:TypeId)(n:Nat):Bool :=
 (match P.underlying t with|some (.struct _)|some (.array _ _)=>true|_=>false) && (P.info? t).map (·.size) == some n
def slowLoad(P:Program)(t:TypeId)(a:Addr)(w:World):Result Value:=(loadVar t a).run P w
def slowStore(P:Program)(t:TypeId)(a:Addr)(v:Value)(w:World):Result Unit:=(storeVar t a v).run P w
def loadVarR(t:TypeId)(n:Nat)(a:Addr):Sem Value:=if n=n then loadVar t a else loadVar t a
def storeVarR(t:TypeId)(n:Nat)(a:Addr)(v:Value):Sem Unit:=if n=n then storeVar t a v else storeVar t a v
def cut(cs:Array Value)(off n:Nat):Array Value:=if off=0∧csz cs=n then cs else cs.extract off (off+n)
@[go_sem] theorem I6(cs:Array Value)(n:Nat)(h:csz cs=n):cut cs 0 n=cs:=by unfold cut;rw[if_pos ⟨rfl,h⟩]
def paste(cs:Array Value)(off:Nat)(vs:Array Value):Array Value:=if off=0∧csz cs=csz vs then vs else splice cs off vs
@[go_sem] theorem A2y(cs vs:Array Value)(h:csz cs=csz vs):paste cs 0 vs=vs:=by unfold paste;rw[if_pos ⟨rfl,h⟩]
@[go_sem] def loadedR(P:Program)(t:TypeId)(n g off:Nat)(w:World):Result Value:=match blk w g with
 | some (.cells cs _ _)=>if off+n≤csz cs then .ok (.agg (cut cs off n)) w else slowLoad P t ⟨g,off,none⟩ w
 | _=>slowLoad P t ⟨g,off,none⟩ w
@[go_sem] def storedR(P:Program)(t:TypeId)(n g off:Nat)(vs:Array Value)(w:World):Result Unit:=match blk w g with
 | some (.cells cs _ (0,0))=>if csz vs=n∧off+n≤csz cs∧ones vs=true then .ok () (w.setRow g (paste cs off vs)) else slowStore P t ⟨g,off,none⟩ (.agg vs) w
 | _=>slowStore P t ⟨g,off,none⟩ (.agg vs) w
theorem A1Q{P:Program}{t:TypeId}{n:Nat}(h:isRow P t n=true)(g off:Nat)(w:World) :
  (loadVarR t n ⟨g,off,none⟩).run P w=loadedR P t n g off w:=by
 unfold loadedR
 unfold loadVarR
 rw[if_pos rfl]
 split
 ·rename_i cs e fr hg
  split
  ·rename_i hsz
   simp only[isRow,A4P,beq_iff_eq] at h
   simp only[csz] at hsz
   have hl:(loadCells ⟨g,off,none⟩ n).run P w=.ok (cut cs off n) w:=by
    have:=run_loadCells (P:=P) w ⟨g,off,none⟩ n (fun j=>cs.getD (off+j) undef) (fun j hj=>by
     have hadd:(⟨g,off,none⟩:Addr).add j=⟨g,off+j,none⟩:=by unfold Addr.add;split<;>simp_all
     rw[hadd,cell_of_row w g (off+j) cs e fr hg,Array.getElem?_eq_getElem H6]
     simp[Array.getD,show off+j<cs.size by omega])
    rw[this]
    congr 1
    have key:((List.range n).map fun j=>cs.getD (off+j) undef).toArray=cs.extract off (off+n):=by
     apply Array.ext
     ·simp;omega
     ·intro i h1 h2
      simp at h1
      simp[Array.getD,show off+i<cs.size by omega]
    rw[key]
    unfold cut csz
    split
    ·rename_i hc
     obtain⟨rfl,rfl⟩:=hc
     simp
    ·rfl
   cases hq:P.info? t with
   | none=>simp[hq] at h
   | some i =>
    have hs:i.size=n:=by simpa[hq] using h.2
    have hagg:(isAgg t).run P w=.ok true w:=by
     unfold isAgg
     cases hu:P.underlying t with
     | none=>simp[hu] at h
     | some d =>
      rw[Sem.run_bind,run_underlying hu w]
      simp only[hu] at h
      cases d<;>simp_all
    simp[loadVar,Sem.run_bind,hagg,sizeOf,typeInfo,hq,hs,hl]
  ·rfl
 ·rfl
theorem A1n{P:Program}{t:TypeId}{n:Nat}(h:isRow P t n=true)(g off:Nat)(vs:Array Value)(w:World) :
  (storeVarR t n ⟨g,off,none⟩ (.agg vs)).run P w=storedR P t n g off vs w:=by
 unfold storedR
 unfold storeVarR
 rw[if_pos rfl]
 split
 ·rename_i cs e hg
  split
  ·rename_i hsz
   simp only[csz] at hsz
   obtain⟨h1,h2,h3⟩:=hsz
   simp only[isRow,A4P,beq_iff_eq] at h
   have:=Q0 (P:=P) g off e vs.toList 0 cs w hg G7 (fun v hv=>(Array.all_eq_true_iff_forall_mem.1 h3) v (by simpa using hv))
   have e2:splice cs (off+0) vs.toList.toArray=paste cs off vs:=by
    unfold paste csz
    split
    ·rename_i hc
     obtain⟨rfl,hc⟩:=hc
     simp[splice,←hc,A4F]
    ·simp
   rw[e2] at this
   cases hq:P.info? t with
   | none=>simp[hq] at h
   | some i =>
    have hs:n=i.size:=by have:=h.2;simp[hq] at this;omega
    simp[storeVar,sizeOf,typeInfo,hq,Value.cells,h1,hs,this]
  ·rfl
 ·rfl
def Cls(W:World):World→Prop:=fun w'=>Below W.heap.size W w'
theorem Cls.step{W w1 w2:World}(h:Cls W w1)(hb:Below w1.heap.size w1 w2):Cls W w2:=chain h h.size hb
theorem Cls.call{P:Program}{W w1:World}(h:Cls W w1){f:FuncId}{args:Array Value}{v:Value}(hc:Calls P f args w1 fun e w'=>e=.returned v∧Below w1.heap.size w1 w') :
  Calls P f args w1 fun e w'=>e=.returned v∧Cls W w':=hc.mono fun _ _ ⟨he,hb⟩=>⟨he,h.step hb⟩
theorem region_cls{P:Program}{id:Nat}{Q:Exit→Act→World→Prop}{a:Act}{w:World}{l:List Oper}(hm:P.follows .mixedOrders=true)(hB:Region.lexB .any l.toArray=true)
  (h:wpQuiet P l.toArray (Cls w) (fun a'=>∀w',Cls w w'→Q .normal a' w') l a):(Code.region id l.toArray true).wp P Q a w :=
 wp_region_quiet (C:=Cls w) hm hB ⟨rfl,rfl,rfl,A4C _,fun _ _=>rfl⟩ G6
def isBytes(P:Program)(t:TypeId)(n:Nat):Bool :=
 match P.underlying t with
 | some (.array m e)=>m == n && (match P.underlying e with|some (.int .u8)=>true|_=>false) && (P.info? e).map (·.size) == some 1
 | _=>false
theorem isBytes_iff{P:Program}{t n:Nat}(h:isBytes P t n=true):∃e,P.underlying t=some (.array n e)∧P.underlying e=some (.int .u8)∧(P.info? e).map (·.size)=some 1:=by
 unfold isBytes at h
 cases hu:P.underlying t with
 | none=>simp[hu] at h
 | some d =>
  cases d<;>simp[hu] at h
  rename_i m e
  refine⟨e,?_,?_,?_⟩
  ·rw[h.1.1]
  ·have:=h.1.2
   split at this<;>simp_all
  ·simpa using h.2
theorem A1Z{P:Program}{e:TypeId}{k:IntKind}(he:P.underlying e=some (.int k))(cs:Array Value)(i:Nat)(v:Value)(hv:cs[i]?=some v)(w:World):(part e cs i).run P w=.ok v w:=by
 have hagg:(isAgg e).run P w=.ok false w:=by
  unfold isAgg
  rw[Sem.run_bind,run_underlying he w]
  simp
 simp[part,Sem.run_bind,hagg,hv]
theorem N4{P:Program}{e n:Nat}(h:(P.info? e).map (·.size)=some n)(w:World):(sizeOf e).run P w=.ok n w:=by
 cases hq:P.info? e with
 | none=>simp[hq] at h
 | some i=>simp[hq] at h;simp[sizeOf,typeInfo,hq,h]
theorem run_index_bytes{P:Program}{t n:Nat}(h:isBytes P t n=true)(cs:Array Value)(k:IntKind)(i:Int)(v:Value)(h0:0≤i)(h1:i<n)(hv:cs[i.toNat]?=some v)(w:World) :
  (Instr.index t (.agg cs) (.int k i)).run P w=.ok v w:=by
 obtain⟨e,hu,he,hs⟩:=isBytes_iff h
 simp[Instr.index,asIntOf,run_underlying hu,h0,h1,N4 hs,A1Z he cs i.toNat v hv]
def slowIndex(P:Program)(t:TypeId)(x i:Value)(w:World):Result Value:=(Instr.index t x i).run P w
@[go_sem] def indexedB(P:Program)(t n:Nat)(cs:Array Value)(k:IntKind)(i:Int)(w:World):Result Value :=
 if 0≤i∧i<n then match cs[i.toNat]? with|some v=>.ok v w|none=>slowIndex P t (.agg cs) (.int k i) w else slowIndex P t (.agg cs) (.int k i) w
theorem A3z{P:Program}{t n:Nat}(h:isBytes P t n=true)(cs:Array Value)(k:IntKind)(i:Int)(w:World):(Instr.index t (.agg cs) (.int k i)).run P w=indexedB P t n cs k i w:=by
 unfold indexedB
 split
 ·rename_i hi
  split
  ·rename_i v hv;exact run_index_bytes h cs k i v hi.1 hi.2 hv w
  ·rfl
 ·rfl
theorem A4m{P:Program}{t n e:Nat}(hu:P.underlying t=some (.array n e))(hs:(P.info? e).map (·.size)=some 1)(he:P.underlying e=some (.int .u8))(d:Nat)
  (hin:∀(a b:Int)(w:World),(Op.equalIn d e (.int .u8 a) (.int .u8 b)).run P w=.ok (a == b) w)(l m:List UInt8)(hl:l.length=n)(hm:m.length=n)(w:World) :
  (Op.equalIn (d+1) t (.agg (bvs l)) (.agg (bvs m))).run P w=.ok (l == m) w:=by
 simp only[Op.equalIn,Sem.run_bind,run_underlying hu,Result.andThen_ok,N4 hs,Std.Legacy.Range.forIn_eq_forIn_range',Std.Legacy.Range.size,A5H,Nat.add_sub_cancel,Nat.div_one,A5x]
 have key:∀(r k:Nat),k+r=n→l.take k=m.take k→(l == m)=(l.drop k == m.drop k):=by
  intro r k _ h
  rw[Bool.eq_iff_iff]
  simp only[beq_iff_eq]
  constructor
  ·intro h;rw[h]
  ·intro h';rw[←A4L k l,←A4L k m,h,h']
 generalize hL0:List.range' 0 n=L
 obtain⟨k,r,hk,ht,hL⟩:∃k r,k+r=n∧l.take k=m.take k∧L=List.range' k r:=⟨0,n,by omega,rfl,hL0.symm⟩
 clear hL0
 induction r generalizing k L w with
 | zero =>
  have e1:=key 0 k hk ht
  rw[A4F H6,A4F H6] at e1
  rw[e1,hL]
  simp
 | succ r ih =>
  rw[hL]
  have hkl:k<l.length:=by omega
  have hkm:k<m.length:=by omega
  have p1:=A1Z (P:=P) he (bvs l) k _ (M7 hkl) w
  have p2:=A1Z (P:=P) he (bvs m) k _ (M7 hkm) w
  have g1:l.getD k 0=l[k]:=by simp[hkl]
  have g2:m.getD k 0=m[k]:=by simp[hkm]
  simp only[List.range'_succ,List.forIn_cons,Sem.run_bind,p1,p2,Result.andThen_ok,hin]
  by_cases hq:l[k]=m[k]
  ·have q1:(!(((l.getD k 0).toNat:Int) == ((m.getD k 0).toNat:Int)))=true↔False:=by rw[g1,g2,hq];simp
   simp only[q1,if_false,Sem.run_pure,Result.andThen_ok]
   refine ih w _ (k+1) H6 ?_ rfl
   rw[A5t hkl,A5t hkm,ht,hq]
  ·have q1:(!(((l.getD k 0).toNat:Int) == ((m.getD k 0).toNat:Int)))=true:=by
    rw[g1,g2]
    simp only[Bool.not_eq_true',beq_eq_false_iff_ne,ne_eq,Int.natCast_inj]
    exact fun h=>hq (UInt8.toNat_inj.1 h)
   simp only[q1,if_true,Sem.run_pure,Result.andThen_ok]
   have:(l == m)=false:=by
    rw[beq_eq_false_iff_ne]
    intro h
    subst h
    exact hq rfl
   rw[this]
theorem Z4{P:Program}{t n:Nat}(h:isBytes P t n=true)(l m:List UInt8)(hl:csz (bvs l)=n)(hm:csz (bvs m)=n)(w:World) :
  (Op.equalIn 10000 t (.agg (bvs l)) (.agg (bvs m))).run P w=.ok (l == m) w:=by
 obtain⟨e,hu,he,hs⟩:=isBytes_iff h
 exact A4m hu hs he 9999 (fun a b w=>run_equalIn_int w 9998 e .u8 .u8 a b he) l m (by rw[←I2,hl]) (by rw[←I2,hm]) w
def elemB(P:Program)(t e size bytes:Nat):Bool :=
 (match P.underlying t with|some (.slice e')=>e' == e|_=>false) && (match P.info? e with
  | some i=>i.size == size && i.bytes == bytes && (match i.zero with|some z=>z.cells.size == size|none=>false)
  | none=>false) && decide (0<size)
theorem elemB_iff{P:Program}{t e size bytes:Nat}(h:elemB P t e size bytes=true) :
  P.underlying t=some (.slice e)∧∃i z,P.info? e=some i∧i.zero=some z∧i.size=size∧i.bytes=bytes∧z.cells.size=size∧0<size:=by
 unfold elemB at h
 simp only[A4P,decide_eq_true_eq] at h
 obtain⟨⟨h1,h2⟩,h3⟩:=h
 refine⟨?_,?_⟩
 ·cases hu:P.underlying t with
  | none=>simp[hu] at h1
  | some d =>
   cases d<;>simp[hu] at h1
   subst h1;rfl
 ·cases hi:P.info? e with
  | none=>simp[hi] at h2
  | some i =>
   cases hz:i.zero with
   | none=>simp[hi,hz] at h2
   | some z =>
    simp[hi,hz] at h2
    exact⟨i,z,rfl,hz,h2.1.1,h2.1.2,h2.2,h3⟩
theorem J6{P:Program}{fn:Func}{p ty n:Nat}(hres:fn.results=#[.cell p ty])(hr:isRow P ty n=true){R:Ending→World→Prop}{a:Act}{w:World}{e:Exit}(he:e=.ret∨e=.normal)
  (g:Nat)(cs:Array Value)(t:TypeId)(fr:Nat × Nat)(hp:a.tmps.getD p undef=.pointer (some ⟨g,0,none⟩))(hd:a.defers=[])(hg:blk w g=some (.cells cs t fr))(hs:cs.size=n)(hR:R (.returned (.agg cs)) w) :
  bodyPost P fn R e a w:=by
 have h1:(results fn a.tmps).run P w=.ok (.agg cs) w:=by
  simp only[isRow,A4P,beq_iff_eq] at hr
  cases hu:P.underlying ty with
  | none=>simp[hu] at hr
  | some d =>
   simp only[hu] at hr
   refine results_cell_row hres a.tmps w g t cs fr d hp hg hu ?_ (by rw[hr.2,hs])
   cases d<;>simp_all
 rcases he with rfl|rfl
 ·exact bodyPost_ret h1 hd hR
 ·exact bodyPost_end h1 hd hR
end
section
@[go_sem ↓] theorem loadVar_181(a:Addr):loadVar 181 a=loadVarR 181 16 a:=by unfold loadVarR;rw[if_pos rfl]
@[go_sem ↓] theorem storeVar_181(a:Addr)(v:Value):storeVar 181 a v=storeVarR 181 16 a v:=by unfold storeVarR;rw[if_pos rfl]
theorem isRow_181:isRow Tryz.prog 181 16=true:=by kernel_rfl
@[go_sem] theorem run_loadVar_181(g off:Nat)(w:World):(loadVarR 181 16 ⟨g,off,none⟩).run Tryz.prog w=loadedR Tryz.prog 181 16 g off w:=A1Q isRow_181 g off w
@[go_sem] theorem run_storeVar_181(g off:Nat)(vs:Array Value)(w:World):(storeVarR 181 16 ⟨g,off,none⟩ (.agg vs)).run Tryz.prog w=storedR Tryz.prog 181 16 g off vs w:=A1n isRow_181 g off vs w
theorem isBytes_181:isBytes Tryz.prog 181 16=true:=by kernel_rfl
@[go_sem] theorem run_index_181(cs:Array Value)(k:IntKind)(i:Int)(w:World):(Instr.index 181 (.agg cs) (.int k i)).run Tryz.prog w=indexedB Tryz.prog 181 16 cs k i w:=A3z isBytes_181 cs k i w
@[go_sem ↓] theorem loadVar_225(a:Addr):loadVar 225 a=loadVarR 225 4 a:=by unfold loadVarR;rw[if_pos rfl]
@[go_sem ↓] theorem storeVar_225(a:Addr)(v:Value):storeVar 225 a v=storeVarR 225 4 a v:=by unfold storeVarR;rw[if_pos rfl]
theorem isRow_225:isRow Tryz.prog 225 4=true:=by kernel_rfl
@[go_sem] theorem run_loadVar_225(g off:Nat)(w:World):(loadVarR 225 4 ⟨g,off,none⟩).run Tryz.prog w=loadedR Tryz.prog 225 4 g off w:=A1Q isRow_225 g off w
@[go_sem] theorem run_storeVar_225(g off:Nat)(vs:Array Value)(w:World):(storeVarR 225 4 ⟨g,off,none⟩ (.agg vs)).run Tryz.prog w=storedR Tryz.prog 225 4 g off vs w:=A1n isRow_225 g off vs w
theorem isBytes_225:isBytes Tryz.prog 225 4=true:=by kernel_rfl
@[go_sem] theorem run_index_225(cs:Array Value)(k:IntKind)(i:Int)(w:World):(Instr.index 225 (.agg cs) (.int k i)).run Tryz.prog w=indexedB Tryz.prog 225 4 cs k i w:=A3z isBytes_225 cs k i w
@[go_sem ↓] theorem storeVar_247(a:Addr)(v:Value):storeVar 247 a v=storeVarR 247 256 a v:=by unfold storeVarR;rw[if_pos rfl]
theorem isRow_247:isRow Tryz.prog 247 256=true:=by kernel_rfl
@[go_sem] theorem run_storeVar_247(g off:Nat)(vs:Array Value)(w:World):(storeVarR 247 256 ⟨g,off,none⟩ (.agg vs)).run Tryz.prog w=storedR Tryz.prog 247 256 g off vs w:=A1n isRow_247 g off vs w
theorem isBytes_247:isBytes Tryz.prog 247 256=true:=by kernel_rfl
@[go_sem] theorem run_index_247(cs:Array Value)(k:IntKind)(i:Int)(w:World):(Instr.index 247 (.agg cs) (.int k i)).run Tryz.prog w=indexedB Tryz.prog 247 256 cs k i w:=A3z isBytes_247 cs k i w
theorem elem_63:elemB Tryz.prog 63 5 1 1=true:=by kernel_rfl
theorem elem_184:elemB Tryz.prog 184 181 16 16=true:=by kernel_rfl
theorem Y8:elemB Tryz.prog 224 225 4 4=true:=by kernel_rfl
end
end
section
open Go.ChangeShapes Go.WideShapes Go.ChangeAt Go.RowKit
end
section
open Go.RowKit
section
variable{P:Program}{md:Region.Mode}{C:World→Prop}
theorem A2H{ops:Array Oper}{Q Q2:Act→Prop}{l1:List Oper}(hq:∀a,Q a→wpQuiet P ops C Q2 l1 a):∀(l0:List Oper)(a:Act),wpQuiet P ops C Q l0 a→wpQuiet P ops C Q2 (l0++l1) a
 | [],a,h=>hq a h
 | o::l0,a,h=>by
  simp only[wpQuiet,A4K] at h ⊢
  split
  ·rename_i hw;rw[if_pos hw] at h;exact Oper.quiet_mono (fun a' h'=>A2H hq l0 a' h') h
  ·rename_i hw;rw[if_neg hw] at h;exact A2H hq l0 _ h
theorem ready_none{ops:Array Oper}{Q:Exit→Act→World→Prop}{listed:Array Bool}{a:Act}{w:World}(hr:Region.ready md ops listed=[])(hQ:Q .normal a w):∀fuel,wpAny P md ops Q fuel listed a w
 | 0=>⟨hr,hQ⟩
 | _+1=>⟨fun _=>hQ,fun i hi=>by rw[hr] at hi;cases hi⟩
def downB(md:Region.Mode)(l:List Oper):Bool:=(List.range l.length).all fun i=>match l[i]? with|some o=>o.after.all fun e => !Region.binds md e || decide (e.on<i)|none=>true
def lastB(md:Region.Mode)(n:Nat)(t:Oper):Bool:=(List.range n).all fun i=>t.after.any fun e=>Region.binds md e && e.on == i
theorem T7{l:List Oper}(hd:downB md l=true){listed:Array Bool}(hsz:listed.size=l.length):∀m,m<l.length→listed.getD m true=false→Region.ready md l.toArray listed≠[]:=by
 intro m
 induction m using Nat.strongRecOn with
 | _ m ih =>
  intro hm hun
  have ho:l.toArray[m]?=some l[m]:=by simp[hm]
  by_cases hall:∀e∈l[m].after,Region.binds md e=true→listed.getD e.on false=true
  ·intro h0
   have:m∈Region.ready md l.toArray listed:=mem_ready.2 ⟨hun,l[m],ho,hall⟩
   rw[h0] at this;cases this
  ·simp only[Classical.not_forall] at hall
   obtain⟨e,he,hb,hl⟩:=hall
   have h1:=A5p.1 hd m (A5K.2 hm)
   rw[A4y hm] at h1
   have h2:=Array.all_eq_true_iff_forall_mem.1 h1 e he
   simp only[hb,Bool.not_true,Bool.false_or,decide_eq_true_eq] at h2
   refine ih e.on h2 H6 ?_
   have h3:e.on<listed.size:=by omega
   simp only[Array.getD,h3,dif_pos] at hl ⊢
   simpa using hl
def struck(t:Oper):Oper:={ t with op:=.move (.const (.bool false)),guard:=none }
theorem at_struck(l:List Oper)(t:Oper)(i:Nat)(hi:i≠l.length):(l++[struck t]).toArray[i]?=(l++[t]).toArray[i]?:=by
 simp only[A4w]
 rcases A6t i l.length with h|h
 ·rw[A4M h,A4M h]
 ·rw[A5v G7,A5v G7]
theorem at_last(l:List Oper)(t:Oper):(l++[t]).toArray[l.length]?=some t:=by simp
theorem A2c(l:List Oper)(t:Oper)(listed:Array Bool):Region.ready md (l++[struck t]).toArray listed=Region.ready md (l++[t]).toArray listed:=by
 unfold Region.ready
 simp only[A4V,A4p,A4G,A4W]
 refine List.filter_congr fun i _=>?_
 by_cases hi:i=l.length
 ·subst hi;rw[at_last,at_last];rfl
 ·rw[at_struck l t i hi]
theorem A2l(l:List Oper)(t:Oper)(tmps:Array Value)(j:Nat):yielded (l++[struck t]).toArray tmps j=yielded (l++[t]).toArray tmps j:=by
 unfold yielded
 by_cases hi:j=l.length
 ·subst hi;rw[at_last,at_last];rfl
 ·rw[at_struck l t j hi]
theorem qOp_struck(l:List Oper)(t:Oper)(i:Nat)(hi:i≠l.length)(K:Act→Prop)(a:Act)(h:qOp P (l++[struck t]).toArray C i K a):qOp P (l++[t]).toArray C i K a:=by
 unfold qOp at *
 rw[at_struck l t i hi,show yielded (l++[struck t]).toArray a.tmps=yielded (l++[t]).toArray a.tmps from funext (A2l l t a.tmps)] at h
 exact h
theorem put_none(a:Act)(v:Value):a.put none v=a:=rfl
theorem A3l{Q:Exit→Act→World→Prop}{l:List Oper}{t:Oper}(htd:t.dst=none)(hdn:downB md (l++[t])=true)(hla:lastB md l.length t=true) :
  ∀(fuel:Nat)(listed:Array Bool)(a:Act),listed.size=l.length+1→listed.getD l.length true=false →
   wpAnyQ P md (l++[struck t]).toArray C (fun a'=>∀w',C w'→wpList P (l++[t]).toArray Q [t] a' w') fuel listed a→∀w,C w→wpAny P md (l++[t]).toArray Q fuel listed a w
 | 0,listed,a,hsz,hun,h,w,hw=>by
  have h1:=h.1
  rw[A2c] at h1
  exact absurd h1 (T7 hdn F9 l.length H7 hun)
 | fuel+1,listed,a,hsz,hun,h,w,hw=>by
  refine⟨fun h0=>absurd h0 (T7 hdn F9 l.length H7 hun),fun i hi=>?_⟩
  have h2:=h.2 i (by rw[A2c];exact hi)
  by_cases hil:i=l.length
  ·subst hil
   obtain⟨v,_,hK⟩:=yieldsIn_of_qOp (at_last l (struck t)) h2
   rw[show (struck t).dst=none from htd,put_none] at hK
   -- all others are listed, and so nothing is left
   have hr:Region.ready md (l++[t]).toArray (listed.setIfInBounds l.length true)=[]:=by
    obtain⟨_,o,ho,hall⟩:=mem_ready.1 hi
    rw[at_last] at ho
    have e:t=o:=Option.some.inj ho
    subst e
    rw[A5B]
    intro k hk
    obtain⟨hku,ok,hok,_⟩:=mem_ready.1 hk
    have hkl:k<l.length+1:=by
     have:=(A4H.1 hok).1
     simpa using this
    by_cases hke:k=l.length
    ·subst hke
     simp[Array.getD,hsz] at hku
    ·have h3:=A5p.1 hla k (A5K.2 H6)
     obtain⟨e,he,hb⟩:=Array.any_eq_true'.1 h3
     simp only[A4P,beq_iff_eq] at hb
     have h4:=hall e he hb.1
     rw[hb.2] at h4
     have hks:k<listed.size:=by omega
     rw[getD_set_ne true (fun h=>hke h.symm)] at hku
     simp only[Array.getD,hks,dif_pos] at h4 hku
     rw[h4] at hku;cases hku
   have hR:∀w',C w'→wpList P (l++[t]).toArray Q [t] a w':=by
    cases fuel with
    | zero=>exact hK.2
    | succ f=>exact hK.1 (by rw[A2c];exact hr)
   have h7:wpOp P (l++[t]).toArray Q l.length (wpList P (l++[t]).toArray Q []) a w:=by
    unfold wpOp
    rw[at_last]
    exact hR w hw
   exact wpOp_mono (fun a' w' h'=>ready_none hr h' fuel) h7
  ·have h3:=qOp_struck l t i hil _ a h2
   refine wpOp_of_qOp hw (fun a' w' hw' hK=>A3l htd hdn hla fuel _ a' F9 ?_ hK w' hw') h3
   rw[getD_set_ne true hil]
   exact hun
end
theorem region_tail{P:Program}{id:Nat}{Q:Exit→Act→World→Prop}{a:Act}{w:World}(l:List Oper)(t:Oper)(hm:P.follows .mixedOrders=true)(htd:t.dst=none)
  (hB:(Region.lexB .any (l++[struck t]).toArray && downB .any (l++[t]) && lastB .any l.length t)=true)
  (h:wpQuiet P (l++[struck t]).toArray (Cls w) (fun a'=>∀w',Cls w w'→wpList P (l++[t]).toArray Q [t] a' w') l a):(Code.region id (l++[t]).toArray true).wp P Q a w:=by
 simp only[A4P] at hB
 obtain⟨⟨hlex,hdn⟩,hla⟩:=hB
 simp only[Region.lexB,A4P] at hlex
 have h1:wpQuiet P (l++[struck t]).toArray (Cls w) (fun a'=>∀w',Cls w w'→wpList P (l++[t]).toArray Q [t] a' w') (l++[struck t]) a :=
  A2H (fun a' ha'=>BigFrame.wpQuiet_want rfl fun K hK=>BigFrame.quiet_move (.const (.bool false)) rfl (hK _ (by rw[show (struck t).dst=none from htd,put_none];exact ha'))) l a h
 have h2:=wpAnyQ_lex (C:=Cls w) (md:=.any) hlex.1 (l++[struck t]) 0 (Array.replicate (l.length+1) false) a H7 (by simpa using hlex.2) h1
 refine wp_region_any hm ?_
 have h3:=A3l htd hdn hla _ _ a H7 (by simp[Array.getD]) h2 { w with drawn:=w.drawn+1 } ⟨rfl,rfl,rfl,A4C _,fun _ _=>rfl⟩
 simpa using h3
theorem A0O{P:Program}{C:World→Prop}(l:List Oper)(t:Oper)(Q:Act→Prop):∀(r:List Oper)(a:Act),wpQuiet P (l++[t]).toArray C Q r a→wpQuiet P (l++[struck t]).toArray C Q r a
 | [],_,h=>h
 | o::r,a,h=>by
  simp only[wpQuiet] at h ⊢
  rw[show yielded (l++[struck t]).toArray a.tmps=yielded (l++[t]).toArray a.tmps from funext (A2l l t a.tmps)]
  split
  ·rename_i hw;rw[if_pos hw] at h;exact Oper.quiet_mono (fun a' h'=>A0O l t Q r a' h') h
  ·rename_i hw;rw[if_neg hw] at h;exact A0O l t Q r _ h
def tailB(l:List Oper):Bool:=match l.getLast? with
 | some t=>(match t.dst with|none=>true|some _=>false) && Region.lexB .any (l.dropLast++[struck t]).toArray && downB .any l && lastB .any l.dropLast.length t
 | none=>false
theorem R4{P:Program}{id:Nat}{Q:Exit→Act→World→Prop}{a:Act}{w:World}{l:List Oper}(hm:P.follows .mixedOrders=true)(hB:tailB l=true)
  (h:wpQuiet P l.toArray (Cls w) (fun a'=>∀w',Cls w w'→wpList P l.toArray Q [l.getLast?.getD default] a' w') l.dropLast a):(Code.region id l.toArray true).wp P Q a w:=by
 unfold tailB at hB
 cases hl:l.getLast? with
 | none=>simp[hl] at hB
 | some t =>
  simp only[hl,A4P] at hB
  obtain⟨⟨⟨h1,h2⟩,h3⟩,h4⟩:=hB
  have htd:t.dst=none:=by cases hd:t.dst<;>simp_all
  have e:l=l.dropLast++[t]:=by
   have hne:l≠[]:=by intro h0;subst h0;cases hl
   have:=List.dropLast_concat_getLast hne
   rw[List.getLast?_eq_some_getLast hne] at hl
   rw[Option.some.inj hl] at this
   exact this.symm
  simp only[hl,Option.getD_some] at h
  generalize l.dropLast=l0 at *
  subst e
  exact region_tail l0 t hm htd (by simp only[A4P];exact⟨⟨h2,h3⟩,h4⟩) (A0O l0 t _ _ _ h)
def St(w0 wr:World)(L:List (Nat × Array Value × TypeId)):Prop :=
 Below w0.heap.size w0 wr∧(∀x∈L,w0.heap.size≤x.1∧blk wr x.1=some (.cells x.2.1 x.2.2 (0,0)))∧(L.map (·.1)).Nodup
theorem St.below{w0 wr:World}{L:List (Nat × Array Value × TypeId)}(h:St w0 wr L):Below w0.heap.size w0 wr:=h.1
theorem St.blk{w0 wr:World}{L:List (Nat × Array Value × TypeId)}(h:St w0 wr L)(i:Nat){b:Nat}{cs:Array Value}{t:TypeId}(hi:L[i]?=some (b,cs,t)):Go.Proofs.YtggbbafanhceaaaGreatRR.blk wr b=some (.cells cs t (0,0)) :=
 (h.2.1 _ (A5a hi)).2
theorem St.at{w0 wr:World}{L:List (Nat × Array Value × TypeId)}(h:St w0 wr L)(i:Nat){b:Nat}{cs:Array Value}{t:TypeId}(hi:L[i]?=some (b,cs,t)) :
  Go.Proofs.YtggbbafanhceaaaGreatRR.blk wr b=some (.cells cs t (0,0))∧(∀o,wr.cell? ⟨b,o,none⟩=cs[o]?)∧(∀o,wr.frozen? ⟨b,o,none⟩=false)∧b<wr.heap.size∧¬b=wr.heap.size:=by
 have h1:=h.blk i hi
 have h2:=J5 h1
 exact⟨h1,fun o=>cell_of_row wr b o cs t _ h1,fun o=>frozen_of_row wr b o cs t h1,h2,by omega⟩
theorem St.call{w0 wr w1:World}{L:List (Nat × Array Value × TypeId)}(h:St w0 wr L)(hb:Below wr.heap.size wr w1):St w0 w1 L :=
 ⟨chain h.1 h.1.size hb,fun x hx=>⟨(h.2.1 x hx).1,(hb.block _ (J5 (h.2.1 x hx).2)).trans (h.2.1 x hx).2⟩,h.2.2⟩
theorem St.cls{w0 wr w1:World}{L:List (Nat × Array Value × TypeId)}(h:St w0 wr L)(hb:Cls wr w1):St w0 w1 L:=h.call hb
theorem St.alloc{w0 wr:World}{L:List (Nat × Array Value × TypeId)}(h:St w0 wr L)(cs:Array Value)(t:TypeId):St w0 (wr.alloc (.cells cs t)) ((wr.heap.size,cs,t)::L):=by
 have h1:St w0 (wr.alloc (.cells cs t)) L:=h.call ((Below.refl _ _).alloc (A4C _) _)
 refine⟨h1.1,fun x hx=>?_,?_⟩
 ·rcases A4O.1 hx with rfl|hx
  ·exact⟨h.1.size,by rw[A0I,if_pos rfl]⟩
  ·exact h1.2.1 x hx
 ·simp only[A5f,A5o]
  refine⟨fun hm=>?_,h.2.2⟩
  obtain⟨x,hx,he⟩:=A4I.1 hm
  have:=J5 (h.2.1 x hx).2
  omega
theorem St.alloc'{w0 wr:World}{L:List (Nat × Array Value × TypeId)}{n:Nat}{cs:Array Value}{t:TypeId}(h:St w0 wr L)(hn:n=wr.heap.size):St w0 (wr.alloc (.cells cs t)) ((n,cs,t)::L):=by
 subst hn;exact h.alloc cs t
theorem St.start(w:World):St w w []:=⟨Below.refl _ _,fun _ h=>(A5b h).elim,List.nodup_nil⟩
theorem St.setRow{w0 wr:World}{L:List (Nat × Array Value × TypeId)}(h:St w0 wr L)(i:Nat){b:Nat}{cs:Array Value}{t:TypeId}(hi:L[i]?=some (b,cs,t))(cs':Array Value):St w0 (wr.setRow b cs') (L.set i (b,cs',t)):=by
 have hm:=h.2.1 _ (A5a hi)
 have hil:i<L.length:=(A4v.1 hi).1
 refine⟨below_setRow' h.1 hm.1 _,fun x hx=>?_,?_⟩
 ·obtain⟨j,hj,rfl⟩:=List.getElem_of_mem hx
  rw[List.getElem_set]
  split
  ·exact⟨hm.1,A0B hm.2 _⟩
  ·rename_i hij
   simp only[A5F] at hj
   have hx2:=h.2.1 L[j] (A6u hj)
   refine⟨hx2.1,?_⟩
   rw[blk_setRow]
   ·exact hx2.2
   ·intro he
    have hn:=h.2.2
    have e1:(L.map (·.1))[i]'(by simpa using hil)=b:=by
     have:=(A4v.1 hi).2
     simp[this]
    have e2:(L.map (·.1))[j]'G1=b:=by simp[he]
    exact hij ((List.getElem_inj hn).1 (e1.trans e2.symm))
 ·have e:(L.set i (b,cs',t)).map (·.1)=L.map (·.1):=by
   rw[List.map_set]
   have:b=(L.map (·.1))[i]'(by simpa using hil):=by
    have:=(A4v.1 hi).2
    simp[this]
   simp only[this,List.set_getElem_self]
  rw[e];exact h.2.2
theorem St.setCell{w0 wr:World}{L:List (Nat × Array Value × TypeId)}(h:St w0 wr L)(i:Nat){b:Nat}{cs:Array Value}{t:TypeId}(hi:L[i]?=some (b,cs,t))(o:Nat)(v:Value):St w0 (wr.setCell ⟨b,o,none⟩ v) (L.set i (b,cs.setIfInBounds o v,t)):=by
 rw[setCell_eq_setRow wr b o cs t (0,0) v (h.blk i hi)]
 exact h.setRow i hi _
theorem St.tail{w0 wr:World}{x:Nat × Array Value × TypeId}{L:List (Nat × Array Value × TypeId)}(h:St w0 wr (x::L)):St w0 wr L :=
 ⟨h.1,fun y hy=>h.2.1 y (A4A _ hy),(A5o.1 (by simpa using h.2.2)).2⟩
theorem St.far{w0 wr:World}{L:List (Nat × Array Value × TypeId)}(h:St w0 wr L){b:Nat}{cs:Array Value}{t:TypeId}{fr:Nat × Nat}(hb:Go.Proofs.YtggbbafanhceaaaGreatRR.blk w0 b=some (.cells cs t fr)) :
  Go.Proofs.YtggbbafanhceaaaGreatRR.blk wr b=some (.cells cs t fr)∧(∀o,wr.cell? ⟨b,o,none⟩=cs[o]?)∧b<w0.heap.size∧b<wr.heap.size∧¬b=wr.heap.size:=by
 have h1:Go.Proofs.YtggbbafanhceaaaGreatRR.blk wr b=some (.cells cs t fr):=(h.1.block b (J5 hb)).trans hb
 have h2:=J5 hb
 have h3:=h.1.size
 exact⟨h1,fun o=>cell_of_row wr b o cs t _ h1,h2,by omega,by omega⟩
end
end Go.Proofs.YtggbbafanhceaaaGreatRR
