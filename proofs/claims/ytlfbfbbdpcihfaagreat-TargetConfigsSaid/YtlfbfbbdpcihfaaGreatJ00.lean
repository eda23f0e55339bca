/- Laws that the claim uses. No condition of their own. -/
import Derived.Test.YtlfbfbbdpcihfaaGreatRows
import Derived.ProofKit
import Derived.SizedLaws
import Derived.OpenShut
import Derived.WalkKit
import Derived.WalkSpells
import Derived.WalkLawsBesides
import Derived.BigQuiet
import Derived.Deep.QuietTactic
import Derived.Deep.RegionHeld3
import Derived.Deep.DeepCutAuto
import Derived.Deep.LoopGhost
import Derived.Deep.DeepMust
import Derived.Deep.DeepFit
import Derived.RangeFuncCalls
import Derived.RangeFuncLeaves
import Derived.RangeFuncRecord
import Derived.OwnWalkIn
import Derived.TacticsInMore
import Derived.LoopNIn
import Derived.LoopIn
import Derived.Sort.LoopGhostIn
import Derived.Deep.Slices
import Derived.Maps.AppendAt
import Derived.Laws.AppendOwnNone
import Derived.OwnWalk
import Derived.Great.BuildSlice
import Derived.Laws.IdiomStrings
import Derived.Lib.BufferRead
import Derived.Laws.CopyOwn
import Derived.Laws.Cover3
import Derived.Laws.CopyRow
import Derived.Laws.IdiomCopy
import Derived.Lib.AppendZeros
import Derived.Laws.Tables
import Derived.Lib.AppendZerosOnto
import Derived.Lib.Overlaps
import Derived.Laws.Externs
import Derived.OrdersIn
import Derived.TacticsIn
import Derived.Lib.SlBytesConst
import Derived.Lib.Bytealg
import Derived.Lib.BytesEntry
import Derived.Laws.StructEq
import Derived.Maps.OwnOps
import Derived.Maps.Views
import Derived.WideKeyArr
import Derived.WideKeyEntry
import Derived.Maps.Keyed
import Derived.Sort.MapsRangeIn
import Derived.Maps.Ext
import Derived.Shelf.SlSortCmp.WholeK
import Derived.OrdersHeld
set_option maxRecDepth 100000
set_option maxHeartbeats 8000000
set_option linter.all false
namespace Go.Proofs.YtlfbfbbdpcihfaaGreat
def A3k:=@List.length_append
def A3l:=@List.mem_cons_of_mem
def A3m:=@List.mem_cons_self
def A3n:=@List.getElem?_eq_some_iff
def A3o:=@List.getElem?_toArray
def A3p:=@List.getElem?_eq_getElem
def A3q:=@List.nil_append
def A3r:=@Array.getElem?_toList
def A3s:=@List.length_take
def A3t:=@Nat.le_refl
def A3u:=@List.length_map
def A3v:=@List.setIfInBounds_toArray
def A3w:=@List.set_cons_zero
def A3x:=@Nat.zero_add
def A3y:=@Array.getElem?_eq_some_iff
def A3z:=@List.set_cons_succ
def A3A:=@Bool.and_eq_true
def A3B:=@List.take_of_length_le
def A3C:=@List.mem_map
def A3D:=@List.length_cons
def A3E:=@List.getElem?_append_left
def A3F:=@List.cons_append
def A3G:=@List.mem_cons
def A3H:=@List.length_drop
def A3I:=@List.getD_eq_getElem?_getD
def A3J:=@List.map_append
def A3K:=@List.append_assoc
def A3L:=@List.mem_append_right
def A3M:=@List.drop_of_length_le
def A3N:=@List.getElem?_map
def A3O:=@List.take_append_drop
def A3P:=@List.getElem?_append_right
def A3Q:=@List.append_nil
def A3R:=@List.size_toArray
def A3S:=@List.length_nil
def A3T:=@Nat.le_trans
def A3U:=@Int.toNat_natCast
def A3V:=@List.all_eq_true
def A3W:=@List.not_mem_nil
def A3X:=@List.map_cons
def A3Y:=@List.mem_append
def A3Z:=@Int.toNat_natCast_add_one
def A4a:=@List.nodup_cons
def A4b:=@List.eraseIdx_cons_zero
def A4c:=@List.eraseIdx_cons_succ
def A4d:=@List.mem_of_getElem?
def A4e:=@Nat.add_sub_cancel_left
def A4f:=@List.getElem?_take
def A4g:=@List.take_zero
def A4h:=@Array.replicate_succ
def A4i:=@Array.replicate_zero
def A4j:=@Nat.mul_one
def A4k:=@Int.ofNat_eq_natCast
def A4l:=@List.append_toArray
def A4m:=@List.mem_range
def A4n:=@Nat.add_zero
def A4o:=@List.drop_replicate
def A4p:=@List.mem_singleton
def A4q:=@List.take_append_of_le_length
def A4r:=@Array.getElem?_setIfInBounds_ne
def A4s:=@List.eq_nil_iff_forall_not_mem
def A4t:=@List.push_toArray
def A4u:=@List.take_succ_eq_append_getElem
def A4v:=@Array.getElem?_eq_none
def A4w:=@List.length_set
def A4x:=@List.take_left'
def A4y:=@Array.length_toList
def A4z:=@List.getElem?_drop
def A4A:=@List.flatMap_cons
def A4B:=@List.mem_append_left
def A4C:=@List.getElem?_eq_none
def A4D:=@Nat.sub_zero
def A4E:=@Nat.zero_mul
def A4F:=@Bool.not_eq_true'
def A4G:=@Int.toNat_zero
def A4H:=@List.drop_append_of_le_length
def A4I:=@Option.map_some
def A4J:=@Nat.one_mul
def A4K:=@Nat.add_assoc
def A4L:=@Int.toNat_one
def A4M:=@List.getElem?_cons_succ
def A4N:=@Array.ext_getElem?
def A4O:=@Array.getElem?_setIfInBounds_self_of_lt
def A4P:=@Nat.lt_of_lt_of_le
def A4Q:=@List.set_append_right
def A4R:=@Bool.and_eq_false_iff
def A4S:=@Bool.or_eq_true
def A4T:=@List.extract_eq_take_drop
def A4U:=@List.drop_append
def A4V:=@Int.cast_ofNat_Int
def A4W:=@Int.add_sub_cancel
def A4X:=@Int.sub_add_cancel
def A4Y:=@List.drop_zero
def A4Z:=@List.getElem?_cons_zero
def A5a:=@List.map_drop
def A5b:=@Int.natCast_zero
def A5c:=@List.perm_append_comm
def A5d:=@List.ext_getElem?
def A5e:=@List.nodup_append
def A5f:=@List.take_add_one
def A5g:=@List.map_take
def A5h:=@List.foldl_toArray'
def A5i:=@List.drop_drop
def A5j:=@Nat.min_eq_left
def A5k:=@List.zip_cons_cons
def A5l:=@List.zip_nil_right
def A5m:=@List.getElem?_of_mem
def A5n:=@Nat.lt_or_ge
def A5o:=@List.length_pos_iff
def A5p:=@List.drop_succ_cons
def A5q:=@List.drop_eq_getElem_cons
def A5r:=@List.foldl_cons
def A5s:=@List.drop_left'
def A5t:=@List.mem_filter
def A5u:=@List.getElem_mem
def A5v:=@List.mem_of_mem_eraseIdx
def A5w:=@Nat.mul_comm
def A5x:=@Int.zero_add
def A5y:=@Int.add_zero
def A5z:=@Int.sub_zero
def A5A:=@Nat.mod_eq_of_lt
def A5B:=@List.zip_toArray
def A5C:=@List.take_add
def A5D:=@List.take_length_add_append
def A5E:=@List.getElem?_range
def A5F:=@List.filterMap_cons
def A5G:=@Nat.div_div_eq_div_mul
def A5H:=@List.any_eq_true
def A5I:=@List.foldl_nil
def A5J:=@Array.getElem?_eq_getElem
def A5K:=@Nat.sub_self
def A5L:=@Array.toList_extract
def A5M:=@List.length_range
def A5N:=@List.eq_nil_of_length_eq_zero
def A5O:=@List.getElem?_replicate
def A5P:=@List.take_length
theorem A3{G:Prop}(h:G:=by(conv=>lhs;simp only[addGs,addG,permL,A3X,List.map_nil,nthL,orD,reO,reG,reE,posL,List.contains_cons,List.contains_nil,Nat.reduceBEq,Bool.or_false,Bool.or_true,Bool.or_self,Bool.false_eq_true,if_true,if_false,Nat.reduceEqDiff,A3x,Nat.reduceAdd,A3F,A3q]);done):G:=h
theorem A4{G:Prop}(h:G:=by(try conv=>lhs;simp only[A3U,A4G,A4L,Int.reduceToNat,A3Z,A4k,A4j,A4J,A3x,A4n,A4D,A4E,Nat.reduceAdd,Nat.reduceMul,Nat.reduceSub]);done):G:=h
theorem A5{G:Prop}(h:G:=by(try simp only[Q8,F3,O6,A3k,A4w,zs_len,A3s,A3H,A3D,A3S,A3u]);first|done|rfl|omega):G:=h
theorem A6{G:Prop}(h:G:=by(try simp only[Q8,F3,O6,A3k,A4w,zs_len,A3s,A3H,A3D,A3S]);first|done|rfl|omega):G:=h
theorem A7{G:Prop}(h:G:=by(try simp only[A3k,A4w,zs_len,A3s,A3H,A3D,A3S,A3u]);omega):G:=h
theorem A8{G:Prop}(h:G:=by simp[Builtin.append_,run_underlying ht,sizeOf,typeInfo,hie,Builtin.lenOf,Builtin.firstCells,hnc,storeCells,loadCells,loadCellsFrom]):G:=h
theorem A9{G:Prop}(h:G:=by(try conv=>lhs;simp only[A3w,A3z,A4b,A4c]);done):G:=h
theorem B0{G:Prop}(h:G:=by(try simp only[A3k,A4w,A3D,A3S]);first|done|decide|omega):G:=h
theorem B4{G:Prop}(h:G:=by repeat (first|exact Below.refl _ _|refine Below.alloc ?_ (by first|omega|(simp;done)) _)):G:=h
theorem B5{G:Prop}(h:G:=by(try conv=>lhs;simp only[A3w,A3z]);first|done|rfl):G:=h
theorem B6{G:Prop}(h:G:=by exact Own.mem own_dk hS (by repeat (first|exact hV|refine A3l _ ?_))):G:=h
theorem B7{G:Prop}(h:G:=by(conv=>lhs;simp only[lateL,lateO,A3F,A3q]);done):G:=h
theorem B8{G:Prop}(h:G:=by repeat (first|with_reducible assumption|refine A3l _ ?_)):G:=h
theorem B9{G:Prop}(h:G:=by rw[<-H5];exact(show csz (bvs (zs 64))=64 by rw[F3,zs_len])):G:=h
theorem C3{G:Prop}(h:G:=by rw[A3q,<-A3J,A3O];rfl):G:=h
theorem C4{G:Prop}(h:G:=by intro v hv;obtain⟨x,_,rfl⟩:=A3C.1 hv;rfl):G:=h
theorem C5{G:Prop}(h:G:=by simpa using hyk _ hRd1 (fun n h=>by cases h;omega)):G:=h
theorem C6{G:Prop}(h:G:=by rw[<-hLl];exact(A3n.1 hj).1):G:=h
theorem C7{G:Prop}(h:G:=by simp only[A3k] at hsz;omega):G:=h
theorem C8{G:Prop}(h:G:=by simp only[A3k];omega):G:=h
theorem C9{G:Prop}(h:G:=by rw[f2];exact word_fits (by omega)):G:=h
theorem D0{G:Prop}(h:G:=by rw[A3u,A4j]):G:=h
theorem D1{G:Prop}(h:G:=by rw[A3s];omega):G:=h
theorem D2{G:Prop}(h:G:=by rw[A3u];omega):G:=h
theorem D3{G:Prop}(h:G:=by with_reducible assumption):G:=h
theorem D4{G:Prop}(h:G:=by rw[<-H5];assumption):G:=h
theorem D5{G:Prop}(h:G:=by unfold isDefer;rw[hop]):G:=h
theorem D6{G:Prop}(h:G:=by intro args w;kernel_rfl):G:=h
theorem D7{G:Prop}(h:G:=by exact Tryz.underlying439):G:=h
theorem D8{G:Prop}(h:G:=by intro x hx;simp[hx]):G:=h
theorem D9{G:Prop}(h:G:=by unfold maxLen;omega):G:=h
theorem E1{G:Prop}(h:G:=by rw[zs_len];omega):G:=h
theorem E2{G:Prop}(h:G:=by simpa using hsz):G:=h
theorem E3{G:Prop}(h:G:=by exact at_ 0 rfl):G:=h
theorem E4{G:Prop}(h:G:=by simpa using hj):G:=h
theorem E5{G:Prop}(h:G:=by infer_instance):G:=h
theorem E6{G:Prop}(h:G:=by simp;omega):G:=h
theorem E7{G:Prop}(h:G:=by kernel_rfl):G:=h
theorem E8{G:Prop}(h:G:=by decide):G:=h
theorem E9{G:Prop}(h:G:=by omega):G:=h
theorem F0{G:Prop}(h:G:=by simp):G:=h
theorem F1{G:Prop}(h:G:=by rfl):G:=h
section
open Go.ChangeShapes Go.WideShapes Go.ChangeAt Go.RowKit
theorem hid{p:Prop}(h:p):Hid p:=h
theorem ret_int{k:IntKind}{a b:Int}(h:a=b):Ending.returned (.int k a)=.returned (.int k b):=by rw[h]
def bv(b:UInt8):Value:=.int .u8 (b.toNat:Int)
def bvs(l:List UInt8):Array Value:=(l.map bv).toArray
theorem A2l{P:Program}{H:Type}{enc:TypeId × Value->H}(hl:laidOutB P=true){W W':World}(hb:Below W.heap.size W W') :
  ∀(ts:List TypeId),(∀t∈ts,P.readableRec t=true/\t<P.types.size)->∀(vs:List Value)(ds:List (DataW H))(ps:List MemPlace),
   DataW.TrodAll enc P W 0 (fun _=>true) true ts vs ds ps->(∀x∈ps,x.block<W.heap.size)->DataW.TrodAll enc P W' 0 (fun b=>decide (b<W.heap.size)) true ts vs ds ps
 | [],_,vs,ds,ps,h,_=>by
  obtain⟨rfl,rfl,rfl⟩:=trodAll_nil h
  exact trodAll_mk0
 | t::ts,ht,vs,ds,ps,h,hlt=>by
  obtain⟨v,vs',d,ds',p,q,rfl,rfl,rfl,h1,h2⟩:=trodAll_cons h
  have k:=ht t F0
  exact trodAll_cons_mk (Below.trod hl k.1 k.2 h1 hb (fun x hx=>hlt x (by simp[hx]))) (A2l hl hb ts (fun t' h'=>ht t' (by simp[h'])) vs' ds' q h2 (fun x hx=>hlt x (by simp[hx])))
theorem A1p{P:Program}{H:Type}{enc:TypeId × Value->H}{w:World}{base:Nat}{sp:Nat->Bool}{held:Bool}:∀{ts:List TypeId}{vs:List Value}{ds:List (DataW H)}{ps:List MemPlace},
  DataW.TrodAll enc P w base sp held ts vs ds ps->ds.length=ts.length
 | [],vs,ds,ps,h=>by obtain⟨rfl,rfl,rfl⟩:=trodAll_nil h;rfl
 | t::ts,vs,ds,ps,h=>by
  obtain⟨v,vs',d,ds',p1,q1,rfl,rfl,rfl,h1,h2⟩:=trodAll_cons h
  simp[A1p h2]
theorem law_lift{C:Checked}{os:Os}{f:FuncId}{fn:Func}{s:ChangeSpec}{H:Type}{enc:TypeId × Value->H}{tb:TypeId}
  (own:ownKnob C.prog.godebug=none)(started:os.Started)(noInit:C.prog.inits.idxOf? f=none)(hfn:C.prog.funcs[f]?=some fn)
  (witness:∃(w:World)(tape:Tape)(i:Input),w.os=os/\(w.forCall tape i).Shaped C.prog/\i.vars=[]/\Input.okWide C.prog (w.forCall tape i) .any w.heap.size f i /\
   s.pre6 enc C.prog fn [] false (w.forCall tape i).memory i.args/\({}:Assume).holds C.prog (lone (Frame.enter C.prog f i.args .normal) [] (w.forCall tape i)))
  (hvars:s.vars=[])(hres:fn.resultTypes=#[tb])(htb:C.prog.underlying tb=some .bool)
  (hs:∀ds:List (DataW H),ds.length=fn.params.toList.length->(s.fn H (ds++[])).results=[.lit (.bool true)]/\(s.fn H (ds++[])).args=ds/\(s.fn H (ds++[])).vars=[])
  (hl:laidOutB C.prog=true)(hts:fn.params.toList.all (fun t=>C.prog.readableRec t && decide (t<C.prog.types.size))=true)
  (walk:∀(W:World)(base:Nat)(args:Array Value)(ds:List (DataW H))(p:List MemPlace),
   (∀(j:Nat) t v,fn.params[j]?=some t->args[j]?=some v->Value.okWide C.prog W .any base t v) ->
   DataW.TrodAll enc C.prog W 0 (fun _=>true) true fn.params.toList args.toList ds p->(∀x∈p,x.block<W.heap.size) ->
   (DataW.weightsEach C.prog fn.params.toList ds).all (· <= reachBytes)=true ->
   Calls C.prog f args W fun e W'=>e=.returned (.bool true)/\Below W.heap.size W W') :
  ReturnsInHanded {} C os f .any (s.pre6 enc C.prog fn [] false) (s.post enc C.prog fn false true false false):=by
 refine returnsInHanded_of_change_sized own started noInit hfn witness ?_
 intro W base args ds gs before hval hW _ hsz _
 have hW':=hW
 have hlt:=hW.lt
 obtain⟨p,q,hA,hV,rfl,hfz,hnd⟩:=hW
 rw[hvars] at hV
 obtain⟨rfl,rfl⟩:=trodVars_none hV
 have hlt':∀x∈p,x.block<W.heap.size:=fun x hx=>hlt x (by simp[hx])
 have hsz':(DataW.weightsEach C.prog fn.params.toList ds).all (· <= reachBytes)=true:=by
  have e:s.plain.varTypes C.prog=[]:=by simp[DataSpec.varTypes,ChangeSpec.plain,hvars]
  rw[e,A3Q,A3Q] at hsz;exact hsz
 refine(walk W base args ds p hval hA hlt' hsz').mono fun e W' ⟨he,hb⟩=>?_
 have hlen:=A1p hA
 obtain⟨er,ea,ev⟩:=hs ds hlen
 have ht:∀t∈fn.params.toList,C.prog.readableRec t=true/\t<C.prog.types.size:=by
  intro t h
  have:=A3V.1 hts t h
  simpa using this
 refine⟨_,he,ds,[],p++[],[],p,[],hW',?_,?_,?_,hb.frame _,fun h=>by cases h⟩
 ·rw[er,hres]
  exact trodAll_mk1 (shut_bool htb true)
 ·rw[ea]
  exact A2l hl hb _ ht _ _ _ hA hlt'
 ·rw[ev,hvars]
  exact rfl
end
section
open Go.RowKit
section
theorem bvs_getElem?(l:List UInt8)(k:Nat):(bvs l)[k]?=(l[k]?).map bv:=by simp[bvs]
theorem A1l(l:List UInt8):(bvs l).size=l.length:=by simp[bvs]
theorem V5(l:List UInt8)(k:Nat)(x:UInt8):(bvs l).setIfInBounds k (.int .u8 (x.toNat:Int))=bvs (l.set k x):=by
 simp[bvs,List.map_set];rfl
theorem bvs_at{l:List UInt8}{k:Nat}{x:UInt8}(h:l[k]?=some x):(bvs l)[k]?=some (.int .u8 (x.toNat:Int)):=by rw[bvs_getElem?,h];rfl
theorem get_some{l:List UInt8}{k:Nat}(h:k<l.length):l[k]?=some (l.getD k 0):=by simp[h]
theorem K7{l:List UInt8}{k:Nat}(h:k<l.length):(bvs l)[k]?=some (.int .u8 ((l.getD k 0).toNat:Int)):=bvs_at (get_some h)
theorem bvs_inj{l m:List UInt8}(h:bvs l=bvs m):l=m:=by
 have h':l.map bv=m.map bv:=by simpa[bvs] using h
 refine List.map_inj_right (fun a b h=>?_) |>.1 h'
 simp only[bv,Value.int.injEq,Int.natCast_inj,true_and] at h
 exact UInt8.toNat_inj.1 h
def zs(n:Nat):List UInt8:=List.replicate n 0
theorem zs_len(n:Nat):(zs n).length=n:=by simp[zs]
theorem zs4 : #[Value.int .u8 0,.int .u8 0,.int .u8 0,.int .u8 0]=bvs (zs 4):=rfl
theorem zs16 : #[Value.int .u8 0,.int .u8 0,.int .u8 0,.int .u8 0,.int .u8 0,.int .u8 0,.int .u8 0,.int .u8 0,.int .u8 0,.int .u8 0,.int .u8 0,.int .u8 0,.int .u8 0,.int .u8 0,.int .u8 0,.int .u8 0]=bvs (zs 16):=rfl
@[go_sem] theorem zs_one(n k:Nat)(h:k<n):(bvs (zs n))[k]?=some (.int .u8 0):=by
 rw[bvs_getElem?,zs,A5O,if_pos h];rfl
attribute [irreducible] zs
def blk(w:World)(i:Nat):Option Obj:=w.heap[i]?
@[go_sem] theorem P5(w:World)(o:Obj)(i:Nat):blk (w.alloc o) i=if i=w.heap.size then some o else blk w i:=by
 show (w.heap.push o)[i]?=_
 rw[Array.getElem?_push];rfl
@[go_sem] theorem blk_drew(w:World)(i:Nat):blk w.drew i=blk w i:=rfl
@[go_sem] theorem blk_drewN(w:World)(n i:Nat):blk (w.drewN n) i=blk w i:=rfl
@[go_sem] theorem blk_setRow(w:World)(g i:Nat)(cs:Array Value)(h:i≠g):blk (w.setRow g cs) i=blk w i:=setRow_other w g i cs h
@[go_sem] theorem blk_setCell(w:World)(a:Addr)(i:Nat)(v:Value)(h:i≠a.block):blk (w.setCell a v) i=blk w i:=Below.heap_setCell w a v i h
theorem G1{w:World}{i:Nat}{o:Obj}(h:blk w i=some o):i<w.heap.size:=(A3y.1 h).1
def ones(vs:Array Value):Bool:=vs.all (·.oneCell')
@[go_sem] theorem ones_bvs(l:List UInt8):ones (bvs l)=true:=by
 simp[ones,bvs]
 intro a _;rfl
@[go_sem] theorem ones_list(l:List Value):ones l.toArray=l.all (·.oneCell'):=by simp[ones]
attribute [go_sem] Value.oneCell'
@[go_sem] theorem drewN_alloc'(w:World)(n:Nat)(o:Obj):(w.drewN n).alloc o=(w.alloc o).drewN n:=rfl
@[go_sem] theorem drewN_setCell'(w:World)(n:Nat)(a:Addr)(v:Value):(w.drewN n).setCell a v=(w.setCell a v).drewN n:=rfl
@[go_sem] theorem drewN_setRow'(w:World)(n:Nat)(g:Nat)(cs:Array Value):(w.drewN n).setRow g cs=(w.setRow g cs).drewN n:=rfl
@[go_sem] theorem drewN_shape'(w:World)(n r:Nat):(w.drewN n).shape? r=w.shape? r:=rfl
@[go_sem] theorem drew_setRow(w:World)(g:Nat)(cs:Array Value):w.drew.setRow g cs=(w.setRow g cs).drew:=rfl
@[go_sem] theorem setRow_alloc_at(w:World)(c cs:Array Value)(t:TypeId)(fr:Nat × Nat)(n:Nat)(hn:n=w.heap.size):(w.alloc (.cells c t fr)).setRow n cs=w.alloc (.cells cs t fr):=by
 subst hn
 unfold World.setRow World.alloc
 congr 1
 apply Array.ext
 ·simp
 ·intro k h1 h2
  simp only[Array.getElem_modify,Array.getElem_push]
  simp only[Array.size_modify,Array.size_push] at h1
  by_cases h:k<w.heap.size
  ·simp[h];omega
  ·simp[h];omega
@[go_sem] theorem setRow_alloc_past(w:World)(o:Obj)(cs:Array Value)(n:Nat)(hn:n<w.heap.size):(w.alloc o).setRow n cs=(w.setRow n cs).alloc o:=by
 unfold World.setRow World.alloc
 congr 1
 apply Array.ext
 ·simp
 ·intro k h1 h2
  simp only[Array.getElem_modify,Array.getElem_push,Array.size_modify]
  simp only[Array.size_modify,Array.size_push] at h1
  by_cases h:k<w.heap.size
  ·simp[h]
  ·have:n≠k:=by omega
   simp[h,this]
theorem below_setRow'{B:Nat}{a w:World}(h:Below B a w){g:Nat}(hg:B<=g)(cs:Array Value):Below B a (w.setRow g cs) :=
 h.trans ⟨rfl,rfl,rfl,by simp,fun k hk=>setRow_other w g k cs E9⟩
theorem below_drewN'{B:Nat}{a w:World}(h:Below B a w)(n:Nat):Below B a (w.drewN n):=⟨h.os,h.tape,h.output,h.size,h.block⟩
theorem chain{B:Nat}{w W w1:World}(h:Below B w W)(hB:B<=W.heap.size)(hb:Below W.heap.size W w1):Below B w w1:=h.trans (hb.mono hB)
theorem A1e{w:World}{g:Nat}{old:Array Value}{t:TypeId}{fr:Nat × Nat}(h:blk w g=some (.cells old t fr))(cs:Array Value):blk (w.setRow g cs) g=some (.cells cs t fr):=setRow_heap w g old cs t fr h
def csz(cs:Array Value):Nat:=cs.size
@[go_sem] theorem O6(l:List Value):csz l.toArray=l.length:=by simp[csz]
theorem F3(l:List UInt8):csz (bvs l)=l.length:=A1l l
@[go_sem] theorem csz_zs(n:Nat):csz (bvs (zs n))=n:=by rw[F3,zs_len]
def splice(c:Array Value)(k:Nat)(vs:Array Value):Array Value:=(c.toList.take k++vs.toList++c.toList.drop (k+vs.size)).toArray
theorem N5{P:Program}(g off:Nat)(t:TypeId):∀(vs:List Value)(i:Nat)(cur:Array Value)(w:World),w.heap[g]?=some (.cells cur t (0,0))->off+i+vs.length<=cur.size->(∀v∈vs,v.oneCell'=true) ->
  (storeCells ⟨g,off,none⟩ vs i).run P w=.ok () (w.setRow g (splice cur (off+i) vs.toArray))
 | [],i,cur,w,hg,hl,_=>by
  have hlt:g<w.heap.size:=(A3y.1 hg).1
  have hv:w.heap[g]=.cells cur t (0,0):=(A3y.1 hg).2
  have e:splice cur (off+i) ([]:List Value).toArray=cur:=by simp[splice]
  rw[e]
  show Result.ok () w=_
  congr 1
  unfold World.setRow
  cases w with
  | mk heap tape drawn os output =>
   congr 1
   apply Array.ext
   ·simp
   ·intro k h1 h2
    simp only[Array.getElem_modify]
    split
    ·rename_i hk;subst hk;simp at hv;simp[hv]
    ·rfl
 | v::rest,i,cur,w,hg,hl,h1=>by
  have hi:off+i<cur.size:=by simp at hl;omega
  have hadd:(⟨g,off,none⟩:Addr).add i=⟨g,off+i,none⟩:=by unfold Addr.add;split<;>simp_all
  have hcell:w.cell? ⟨g,off+i,none⟩=some cur[off+i]:=by simp[World.cell?,hg,hi]
  have hfro:w.frozen? ⟨g,off+i,none⟩=false:=by simp[World.frozen?,hg]
  have hst:(store ((⟨g,off,none⟩:Addr).add i) v).run P w=.ok () (w.setRow g (cur.setIfInBounds (off+i) v)):=by
   rw[hadd,run_store P w _ v _ (h1 v F0),hcell]
   simp[hfro,setCell_eq_setRow w g (off+i) cur t (0,0) v hg]
  have ih:=N5 (P:=P) g off t rest (i+1) (cur.setIfInBounds (off+i) v) (w.setRow g (cur.setIfInBounds (off+i) v)) (setRow_heap w g cur _ t _ hg) (by simp at hl |-;omega) (fun x hx=>h1 x (by simp[hx]))
  simp only[storeCells,Sem.run_bind,hst,Result.andThen_ok,ih,setRow_setRow]
  congr 2
  unfold splice
  congr 1
  apply A5d
  intro k
  simp only[Array.toList_setIfInBounds,List.getElem?_append,A3s,A4w,A4y,A3k,A4z,List.getElem?_set]
  by_cases hk:k<off+i
  ·simp[hk,show k<off+(i+1) by omega,show min (off+(i+1)) cur.size=off+(i+1) by omega,show min (off+i) cur.size=off+i by omega,show off+i≠k by omega,show k<off+i+(rest.length+1) by omega,show k<off+(i+1)+rest.length by omega]
  ·by_cases hk2:k=off+i
   ·subst hk2
    simp[show min (off+(i+1)) cur.size=off+(i+1) by omega,show min (off+i) cur.size=off+i by omega,show off+i<off+(i+1) by omega,show off+i<off+(i+1)+rest.length by omega]
   ·have q1:¬k<off+(i+1):=by omega
    simp only[show min (off+(i+1)) cur.size=off+(i+1) by omega,show min (off+i) cur.size=off+i by omega,A3R,A3D]
    by_cases hk3:k<off+(i+1)+rest.length
    ·have e1:k<off+i+(rest.length+1):=by omega
     simp[hk,q1,hk3,e1,show k - (off+i)=(k - (off+(i+1)))+1 by omega]
    ·have e1:¬k<off+i+(rest.length+1):=by omega
     have e2:k - (off+(i+1)+rest.length)=k - (off+i+(rest.length+1)):=by omega
     simp only[hk3,e1,if_false,e2]
     rw[show off+(i+1)+rest.length+(k - (off+i+(rest.length+1)))=k by omega,show off+i+(rest.length+1)+(k - (off+i+(rest.length+1)))=k by omega]
     simp[show off+i≠k by omega]
def isRow(P:Program)(t:TypeId)(n:Nat):Bool :=
 (match P.underlying t with|some (.struct _)|some (.array _ _)=>true|_=>false) && (P.info? t).map (·.size) == some n
def slowLoad(P:Program)(t:TypeId)(a:Addr)(w:World):Result Value:=(loadVar t a).run P w
def slowStore(P:Program)(t:TypeId)(a:Addr)(v:Value)(w:World):Result Unit:=(storeVar t a v).run P w
def loadVarR(t:TypeId)(n:Nat)(a:Addr):Sem Value:=if n=n then loadVar t a else loadVar t a
def storeVarR(t:TypeId)(n:Nat)(a:Addr)(v:Value):Sem Unit:=if n=n then storeVar t a v else storeVar t a v
def cut(cs:Array Value)(off n:Nat):Array Value:=if off=0/\csz cs=n then cs else cs.extract off (off+n)
@[go_sem] theorem G7(cs:Array Value)(n:Nat)(h:csz cs=n):cut cs 0 n=cs:=by unfold cut;rw[if_pos ⟨rfl,h⟩]
def paste(cs:Array Value)(off:Nat)(vs:Array Value):Array Value:=if off=0/\csz cs=csz vs then vs else splice cs off vs
@[go_sem] theorem A1v(cs vs:Array Value)(h:csz cs=csz vs):paste cs 0 vs=vs:=by unfold paste;rw[if_pos ⟨rfl,h⟩]
@[go_sem] def loadedR(P:Program)(t:TypeId)(n g off:Nat)(w:World):Result Value:=match blk w g with
 | some (.cells cs _ _)=>if off+n<=csz cs then .ok (.agg (cut cs off n)) w else slowLoad P t ⟨g,off,none⟩ w
 | _=>slowLoad P t ⟨g,off,none⟩ w
@[go_sem] def storedR(P:Program)(t:TypeId)(n g off:Nat)(vs:Array Value)(w:World):Result Unit:=match blk w g with
 | some (.cells cs _ (0,0))=>if csz vs=n/\off+n<=csz cs/\ones vs=true then .ok () (w.setRow g (paste cs off vs)) else slowStore P t ⟨g,off,none⟩ (.agg vs) w
 | _=>slowStore P t ⟨g,off,none⟩ (.agg vs) w
theorem A0W{P:Program}{t:TypeId}{n:Nat}(h:isRow P t n=true)(g off:Nat)(w:World) :
  (loadVarR t n ⟨g,off,none⟩).run P w=loadedR P t n g off w:=by
 unfold loadedR
 unfold loadVarR
 rw[if_pos rfl]
 split
 ·rename_i cs e fr hg
  split
  ·rename_i hsz
   simp only[isRow,A3A,beq_iff_eq] at h
   simp only[csz] at hsz
   have hl:(loadCells ⟨g,off,none⟩ n).run P w=.ok (cut cs off n) w:=by
    have:=run_loadCells (P:=P) w ⟨g,off,none⟩ n (fun j=>cs.getD (off+j) undef) (fun j hj=>by
     have hadd:(⟨g,off,none⟩:Addr).add j=⟨g,off+j,none⟩:=by unfold Addr.add;split<;>simp_all
     rw[hadd,cell_of_row w g (off+j) cs e fr hg,A5J E9]
     simp[Array.getD,show off+j<cs.size by omega])
    rw[this]
    congr 1
    have key:((List.range n).map fun j=>cs.getD (off+j) undef).toArray=cs.extract off (off+n):=by
     apply Array.ext
     ·simp;omega
     ·intro i h1 h2
      simp at h1
      simp[Array.getD,show off+i<cs.size by omega]
    rw[key]
    unfold cut csz
    split
    ·rename_i hc
     obtain⟨rfl,rfl⟩:=hc
     simp
    ·rfl
   cases hq:P.info? t with
   | none=>simp[hq] at h
   | some i =>
    have hs:i.size=n:=by simpa[hq] using h.2
    have hagg:(isAgg t).run P w=.ok true w:=by
     unfold isAgg
     cases hu:P.underlying t with
     | none=>simp[hu] at h
     | some d =>
      rw[Sem.run_bind,run_underlying hu w]
      simp only[hu] at h
      cases d<;>simp_all
    simp[loadVar,Sem.run_bind,hagg,sizeOf,typeInfo,hq,hs,hl]
  ·rfl
 ·rfl
theorem A0u{P:Program}{t:TypeId}{n:Nat}(h:isRow P t n=true)(g off:Nat)(vs:Array Value)(w:World) :
  (storeVarR t n ⟨g,off,none⟩ (.agg vs)).run P w=storedR P t n g off vs w:=by
 unfold storedR
 unfold storeVarR
 rw[if_pos rfl]
 split
 ·rename_i cs e hg
  split
  ·rename_i hsz
   simp only[csz] at hsz
   obtain⟨h1,h2,h3⟩:=hsz
   simp only[isRow,A3A,beq_iff_eq] at h
   have:=N5 (P:=P) g off e vs.toList 0 cs w hg E6 (fun v hv=>(Array.all_eq_true_iff_forall_mem.1 h3) v (by simpa using hv))
   have e2:splice cs (off+0) vs.toList.toArray=paste cs off vs:=by
    unfold paste csz
    split
    ·rename_i hc
     obtain⟨rfl,hc⟩:=hc
     simp[splice,<-hc,A3M]
    ·simp
   rw[e2] at this
   cases hq:P.info? t with
   | none=>simp[hq] at h
   | some i =>
    have hs:n=i.size:=by have:=h.2;simp[hq] at this;omega
    simp[storeVar,sizeOf,typeInfo,hq,Value.cells,h1,hs,this]
  ·rfl
 ·rfl
def Cls(W:World):World->Prop:=fun w'=>Below W.heap.size W w'
theorem Cls.step{W w1 w2:World}(h:Cls W w1)(hb:Below w1.heap.size w1 w2):Cls W w2:=chain h h.size hb
theorem Cls.call{P:Program}{W w1:World}(h:Cls W w1){f:FuncId}{args:Array Value}{v:Value}(hc:Calls P f args w1 fun e w'=>e=.returned v/\Below w1.heap.size w1 w') :
  Calls P f args w1 fun e w'=>e=.returned v/\Cls W w':=hc.mono fun _ _ ⟨he,hb⟩=>⟨he,h.step hb⟩
def isBytes(P:Program)(t:TypeId)(n:Nat):Bool :=
 match P.underlying t with
 | some (.array m e)=>m == n && (match P.underlying e with|some (.int .u8)=>true|_=>false) && (P.info? e).map (·.size) == some 1
 | _=>false
theorem isBytes_iff{P:Program}{t n:Nat}(h:isBytes P t n=true):∃e,P.underlying t=some (.array n e)/\P.underlying e=some (.int .u8)/\(P.info? e).map (·.size)=some 1:=by
 unfold isBytes at h
 cases hu:P.underlying t with
 | none=>simp[hu] at h
 | some d =>
  cases d<;>simp[hu] at h
  rename_i m e
  refine⟨e,?_,?_,?_⟩
  ·rw[h.1.1]
  ·have:=h.1.2
   split at this<;>simp_all
  ·simpa using h.2
theorem A0I{P:Program}{e:TypeId}{k:IntKind}(he:P.underlying e=some (.int k))(cs:Array Value)(i:Nat)(v:Value)(hv:cs[i]?=some v)(w:World):(part e cs i).run P w=.ok v w:=by
 have hagg:(isAgg e).run P w=.ok false w:=by
  unfold isAgg
  rw[Sem.run_bind,run_underlying he w]
  simp
 simp[part,Sem.run_bind,hagg,hv]
theorem J7{P:Program}{e n:Nat}(h:(P.info? e).map (·.size)=some n)(w:World):(sizeOf e).run P w=.ok n w:=by
 cases hq:P.info? e with
 | none=>simp[hq] at h
 | some i=>simp[hq] at h;simp[sizeOf,typeInfo,hq,h]
theorem run_index_bytes{P:Program}{t n:Nat}(h:isBytes P t n=true)(cs:Array Value)(k:IntKind)(i:Int)(v:Value)(h0:0<=i)(h1:i<n)(hv:cs[i.toNat]?=some v)(w:World) :
  (Instr.index t (.agg cs) (.int k i)).run P w=.ok v w:=by
 obtain⟨e,hu,he,hs⟩:=isBytes_iff h
 simp[Instr.index,asIntOf,run_underlying hu,h0,h1,J7 hs,A0I he cs i.toNat v hv]
def slowIndex(P:Program)(t:TypeId)(x i:Value)(w:World):Result Value:=(Instr.index t x i).run P w
@[go_sem] def indexedB(P:Program)(t n:Nat)(cs:Array Value)(k:IntKind)(i:Int)(w:World):Result Value :=
 if 0<=i/\i<n then match cs[i.toNat]? with|some v=>.ok v w|none=>slowIndex P t (.agg cs) (.int k i) w else slowIndex P t (.agg cs) (.int k i) w
theorem A2y{P:Program}{t n:Nat}(h:isBytes P t n=true)(cs:Array Value)(k:IntKind)(i:Int)(w:World):(Instr.index t (.agg cs) (.int k i)).run P w=indexedB P t n cs k i w:=by
 unfold indexedB
 split
 ·rename_i hi
  split
  ·rename_i v hv;exact run_index_bytes h cs k i v hi.1 hi.2 hv w
  ·rfl
 ·rfl
theorem A3i{P:Program}{t n e:Nat}(hu:P.underlying t=some (.array n e))(hs:(P.info? e).map (·.size)=some 1)(he:P.underlying e=some (.int .u8))(d:Nat)
  (hin:∀(a b:Int)(w:World),(Op.equalIn d e (.int .u8 a) (.int .u8 b)).run P w=.ok (a == b) w)(l m:List UInt8)(hl:l.length=n)(hm:m.length=n)(w:World) :
  (Op.equalIn (d+1) t (.agg (bvs l)) (.agg (bvs m))).run P w=.ok (l == m) w:=by
 simp only[Op.equalIn,Sem.run_bind,run_underlying hu,Result.andThen_ok,J7 hs,Std.Legacy.Range.forIn_eq_forIn_range',Std.Legacy.Range.size,A4D,Nat.add_sub_cancel,Nat.div_one,A4j]
 have key:∀(r k:Nat),k+r=n->l.take k=m.take k->(l == m)=(l.drop k == m.drop k):=by
  intro r k _ h
  rw[Bool.eq_iff_iff]
  simp only[beq_iff_eq]
  constructor
  ·intro h;rw[h]
  ·intro h';rw[<-A3O k l,<-A3O k m,h,h']
 generalize hL0:List.range' 0 n=L
 obtain⟨k,r,hk,ht,hL⟩:∃k r,k+r=n/\l.take k=m.take k/\L=List.range' k r:=⟨0,n,by omega,rfl,hL0.symm⟩
 clear hL0
 induction r generalizing k L w with
 | zero =>
  have e1:=key 0 k hk ht
  rw[A3M E9,A3M E9] at e1
  rw[e1,hL]
  simp
 | succ r ih =>
  rw[hL]
  have hkl:k<l.length:=by omega
  have hkm:k<m.length:=by omega
  have p1:=A0I (P:=P) he (bvs l) k _ (K7 hkl) w
  have p2:=A0I (P:=P) he (bvs m) k _ (K7 hkm) w
  have g1:l.getD k 0=l[k]:=by simp[hkl]
  have g2:m.getD k 0=m[k]:=by simp[hkm]
  simp only[List.range'_succ,List.forIn_cons,Sem.run_bind,p1,p2,Result.andThen_ok,hin]
  by_cases hq:l[k]=m[k]
  ·have q1:(!(((l.getD k 0).toNat:Int) == ((m.getD k 0).toNat:Int)))=true↔False:=by rw[g1,g2,hq];simp
   simp only[q1,if_false,Sem.run_pure,Result.andThen_ok]
   refine ih w _ (k+1) E9 ?_ rfl
   rw[A4u hkl,A4u hkm,ht,hq]
  ·have q1:(!(((l.getD k 0).toNat:Int) == ((m.getD k 0).toNat:Int)))=true:=by
    rw[g1,g2]
    simp only[A4F,beq_eq_false_iff_ne,ne_eq,Int.natCast_inj]
    exact fun h=>hq (UInt8.toNat_inj.1 h)
   simp only[q1,if_true,Sem.run_pure,Result.andThen_ok]
   have:(l == m)=false:=by
    rw[beq_eq_false_iff_ne]
    intro h
    subst h
    exact hq rfl
   rw[this]
theorem V7{P:Program}{t n:Nat}(h:isBytes P t n=true)(l m:List UInt8)(hl:csz (bvs l)=n)(hm:csz (bvs m)=n)(w:World) :
  (Op.equalIn 10000 t (.agg (bvs l)) (.agg (bvs m))).run P w=.ok (l == m) w:=by
 obtain⟨e,hu,he,hs⟩:=isBytes_iff h
 exact A3i hu hs he 9999 (fun a b w=>run_equalIn_int w 9998 e .u8 .u8 a b he) l m (by rw[<-F3,hl]) (by rw[<-F3,hm]) w
def elemB(P:Program)(t e size bytes:Nat):Bool :=
 (match P.underlying t with|some (.slice e')=>e' == e|_=>false) && (match P.info? e with
  | some i=>i.size == size && i.bytes == bytes && (match i.zero with|some z=>z.cells.size == size|none=>false)
  | none=>false) && decide (0<size)
theorem elemB_iff{P:Program}{t e size bytes:Nat}(h:elemB P t e size bytes=true) :
  P.underlying t=some (.slice e)/\∃i z,P.info? e=some i/\i.zero=some z/\i.size=size/\i.bytes=bytes/\z.cells.size=size/\0<size:=by
 unfold elemB at h
 simp only[A3A,decide_eq_true_eq] at h
 obtain⟨⟨h1,h2⟩,h3⟩:=h
 refine⟨?_,?_⟩
 ·cases hu:P.underlying t with
  | none=>simp[hu] at h1
  | some d =>
   cases d<;>simp[hu] at h1
   subst h1;rfl
 ·cases hi:P.info? e with
  | none=>simp[hi] at h2
  | some i =>
   cases hz:i.zero with
   | none=>simp[hi,hz] at h2
   | some z =>
    simp[hi,hz] at h2
    exact⟨i,z,rfl,hz,h2.1.1,h2.1.2,h2.2,h3⟩
theorem G2{P:Program}{fn:Func}{p ty n:Nat}(hres:fn.results=#[.cell p ty])(hr:isRow P ty n=true){R:Ending->World->Prop}{a:Act}{w:World}{e:Exit}(he:e=.ret\/e=.normal)
  (g:Nat)(cs:Array Value)(t:TypeId)(fr:Nat × Nat)(hp:a.tmps.getD p undef=.pointer (some ⟨g,0,none⟩))(hd:a.defers=[])(hg:blk w g=some (.cells cs t fr))(hs:cs.size=n)(hR:R (.returned (.agg cs)) w) :
  bodyPost P fn R e a w:=by
 have h1:(results fn a.tmps).run P w=.ok (.agg cs) w:=by
  simp only[isRow,A3A,beq_iff_eq] at hr
  cases hu:P.underlying ty with
  | none=>simp[hu] at hr
  | some d =>
   simp only[hu] at hr
   refine results_cell_row hres a.tmps w g t cs fr d hp hg hu ?_ (by rw[hr.2,hs])
   cases d<;>simp_all
 rcases he with rfl|rfl
 ·exact bodyPost_ret h1 hd hR
 ·exact bodyPost_end h1 hd hR
end
section
@[go_sem ↓] theorem loadVar_274(a:Addr):loadVar 274 a=loadVarR 274 16 a:=by unfold loadVarR;rw[if_pos rfl]
@[go_sem ↓] theorem storeVar_274(a:Addr)(v:Value):storeVar 274 a v=storeVarR 274 16 a v:=by unfold storeVarR;rw[if_pos rfl]
theorem isRow_274:isRow Tryz.prog 274 16=true:=by kernel_rfl
@[go_sem] theorem run_loadVar_274(g off:Nat)(w:World):(loadVarR 274 16 ⟨g,off,none⟩).run Tryz.prog w=loadedR Tryz.prog 274 16 g off w:=A0W isRow_274 g off w
@[go_sem] theorem run_storeVar_274(g off:Nat)(vs:Array Value)(w:World):(storeVarR 274 16 ⟨g,off,none⟩ (.agg vs)).run Tryz.prog w=storedR Tryz.prog 274 16 g off vs w:=A0u isRow_274 g off vs w
theorem isBytes_274:isBytes Tryz.prog 274 16=true:=by kernel_rfl
@[go_sem] theorem run_index_274(cs:Array Value)(k:IntKind)(i:Int)(w:World):(Instr.index 274 (.agg cs) (.int k i)).run Tryz.prog w=indexedB Tryz.prog 274 16 cs k i w:=A2y isBytes_274 cs k i w
@[go_sem ↓] theorem loadVar_357(a:Addr):loadVar 357 a=loadVarR 357 4 a:=by unfold loadVarR;rw[if_pos rfl]
@[go_sem ↓] theorem storeVar_357(a:Addr)(v:Value):storeVar 357 a v=storeVarR 357 4 a v:=by unfold storeVarR;rw[if_pos rfl]
theorem isRow_357:isRow Tryz.prog 357 4=true:=by kernel_rfl
@[go_sem] theorem run_loadVar_357(g off:Nat)(w:World):(loadVarR 357 4 ⟨g,off,none⟩).run Tryz.prog w=loadedR Tryz.prog 357 4 g off w:=A0W isRow_357 g off w
@[go_sem] theorem run_storeVar_357(g off:Nat)(vs:Array Value)(w:World):(storeVarR 357 4 ⟨g,off,none⟩ (.agg vs)).run Tryz.prog w=storedR Tryz.prog 357 4 g off vs w:=A0u isRow_357 g off vs w
theorem isBytes_357:isBytes Tryz.prog 357 4=true:=by kernel_rfl
@[go_sem] theorem run_index_357(cs:Array Value)(k:IntKind)(i:Int)(w:World):(Instr.index 357 (.agg cs) (.int k i)).run Tryz.prog w=indexedB Tryz.prog 357 4 cs k i w:=A2y isBytes_357 cs k i w
@[go_sem ↓] theorem storeVar_408(a:Addr)(v:Value):storeVar 408 a v=storeVarR 408 256 a v:=by unfold storeVarR;rw[if_pos rfl]
theorem isRow_408:isRow Tryz.prog 408 256=true:=by kernel_rfl
@[go_sem] theorem run_storeVar_408(g off:Nat)(vs:Array Value)(w:World):(storeVarR 408 256 ⟨g,off,none⟩ (.agg vs)).run Tryz.prog w=storedR Tryz.prog 408 256 g off vs w:=A0u isRow_408 g off vs w
theorem isBytes_408:isBytes Tryz.prog 408 256=true:=by kernel_rfl
@[go_sem] theorem run_index_408(cs:Array Value)(k:IntKind)(i:Int)(w:World):(Instr.index 408 (.agg cs) (.int k i)).run Tryz.prog w=indexedB Tryz.prog 408 256 cs k i w:=A2y isBytes_408 cs k i w
theorem elem_277:elemB Tryz.prog 277 274 16 16=true:=by kernel_rfl
theorem A1E:elemB Tryz.prog 356 357 4 4=true:=by kernel_rfl
end
end
section
open Go.ChangeShapes Go.WideShapes Go.ChangeAt Go.RowKit
end
end Go.Proofs.YtlfbfbbdpcihfaaGreat
