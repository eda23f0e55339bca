/- Laws that the claim uses. No condition of their own. -/
import Derived.Test.YtlfbfbbdpcihfaaGreatJ00
set_option maxRecDepth 100000
set_option maxHeartbeats 8000000
set_option linter.all false
namespace Go.Proofs.YtlfbfbbdpcihfaaGreat
section
open Go.RowKit
section
variable{P:Program}{md:Region.Mode}{C:World->Prop}
theorem A1j{ops:Array Oper}{Q Q2:Act->Prop}{l1:List Oper}(hq:∀a,Q a->wpQuiet P ops C Q2 l1 a):∀(l0:List Oper)(a:Act),wpQuiet P ops C Q l0 a->wpQuiet P ops C Q2 (l0++l1) a
 | [],a,h=>hq a h
 | o::l0,a,h=>by
  simp only[wpQuiet,A3F] at h |-
  split
  ·rename_i hw;rw[if_pos hw] at h;exact Oper.quiet_mono (fun a' h'=>A1j hq l0 a' h') h
  ·rename_i hw;rw[if_neg hw] at h;exact A1j hq l0 _ h
theorem ready_none{ops:Array Oper}{Q:Exit->Act->World->Prop}{listed:Array Bool}{a:Act}{w:World}(hr:Region.ready md ops listed=[])(hQ:Q .normal a w):∀fuel,wpAny P md ops Q fuel listed a w
 | 0=>⟨hr,hQ⟩
 | _+1=>⟨fun _=>hQ,fun i hi=>by rw[hr] at hi;cases hi⟩
def downB(md:Region.Mode)(l:List Oper):Bool:=(List.range l.length).all fun i=>match l[i]? with|some o=>o.after.all fun e => !Region.binds md e || decide (e.on<i)|none=>true
def lastB(md:Region.Mode)(n:Nat)(t:Oper):Bool:=(List.range n).all fun i=>t.after.any fun e=>Region.binds md e && e.on == i
theorem Q1{l:List Oper}(hd:downB md l=true){listed:Array Bool}(hsz:listed.size=l.length):∀m,m<l.length->listed.getD m true=false->Region.ready md l.toArray listed≠[]:=by
 intro m
 induction m using Nat.strongRecOn with
 | _ m ih =>
  intro hm hun
  have ho:l.toArray[m]?=some l[m]:=by simp[hm]
  by_cases hall:∀e∈l[m].after,Region.binds md e=true->listed.getD e.on false=true
  ·intro h0
   have:m∈Region.ready md l.toArray listed:=mem_ready.2 ⟨hun,l[m],ho,hall⟩
   rw[h0] at this;cases this
  ·simp only[Classical.not_forall] at hall
   obtain⟨e,he,hb,hl⟩:=hall
   have h1:=A3V.1 hd m (A4m.2 hm)
   rw[A3p hm] at h1
   have h2:=Array.all_eq_true_iff_forall_mem.1 h1 e he
   simp only[hb,Bool.not_true,Bool.false_or,decide_eq_true_eq] at h2
   refine ih e.on h2 E9 ?_
   have h3:e.on<listed.size:=by omega
   simp only[Array.getD,h3,dif_pos] at hl |-
   simpa using hl
def struck(t:Oper):Oper:={ t with op:=.move (.const (.bool false)),guard:=none }
theorem at_struck(l:List Oper)(t:Oper)(i:Nat)(hi:i≠l.length):(l++[struck t]).toArray[i]?=(l++[t]).toArray[i]?:=by
 simp only[A3o]
 rcases A5n i l.length with h|h
 ·rw[A3E h,A3E h]
 ·rw[A4C E6,A4C E6]
theorem at_last(l:List Oper)(t:Oper):(l++[t]).toArray[l.length]?=some t:=by simp
theorem A1a(l:List Oper)(t:Oper)(listed:Array Bool):Region.ready md (l++[struck t]).toArray listed=Region.ready md (l++[t]).toArray listed:=by
 unfold Region.ready
 simp only[A3R,A3k,A3D,A3S]
 refine List.filter_congr fun i _=>?_
 by_cases hi:i=l.length
 ·subst hi;rw[at_last,at_last];rfl
 ·rw[at_struck l t i hi]
theorem A1s(l:List Oper)(t:Oper)(tmps:Array Value)(j:Nat):yielded (l++[struck t]).toArray tmps j=yielded (l++[t]).toArray tmps j:=by
 unfold yielded
 by_cases hi:j=l.length
 ·subst hi;rw[at_last,at_last];rfl
 ·rw[at_struck l t j hi]
theorem qOp_struck(l:List Oper)(t:Oper)(i:Nat)(hi:i≠l.length)(K:Act->Prop)(a:Act)(h:qOp P (l++[struck t]).toArray C i K a):qOp P (l++[t]).toArray C i K a:=by
 unfold qOp at *
 rw[at_struck l t i hi,show yielded (l++[struck t]).toArray a.tmps=yielded (l++[t]).toArray a.tmps from funext (A1s l t a.tmps)] at h
 exact h
theorem put_none(a:Act)(v:Value):a.put none v=a:=rfl
theorem A2k{Q:Exit->Act->World->Prop}{l:List Oper}{t:Oper}(htd:t.dst=none)(hdn:downB md (l++[t])=true)(hla:lastB md l.length t=true) :
  ∀(fuel:Nat)(listed:Array Bool)(a:Act),listed.size=l.length+1->listed.getD l.length true=false ->
   wpAnyQ P md (l++[struck t]).toArray C (fun a'=>∀w',C w'->wpList P (l++[t]).toArray Q [t] a' w') fuel listed a->∀w,C w->wpAny P md (l++[t]).toArray Q fuel listed a w
 | 0,listed,a,hsz,hun,h,w,hw=>by
  have h1:=h.1
  rw[A1a] at h1
  exact absurd h1 (Q1 hdn E2 l.length F0 hun)
 | fuel+1,listed,a,hsz,hun,h,w,hw=>by
  refine⟨fun h0=>absurd h0 (Q1 hdn E2 l.length F0 hun),fun i hi=>?_⟩
  have h2:=h.2 i (by rw[A1a];exact hi)
  by_cases hil:i=l.length
  ·subst hil
   obtain⟨v,_,hK⟩:=yieldsIn_of_qOp (at_last l (struck t)) h2
   rw[show (struck t).dst=none from htd,put_none] at hK
   -- all others are listed, and so nothing is left
   have hr:Region.ready md (l++[t]).toArray (listed.setIfInBounds l.length true)=[]:=by
    obtain⟨_,o,ho,hall⟩:=mem_ready.1 hi
    rw[at_last] at ho
    have e:t=o:=Option.some.inj ho
    subst e
    rw[A4s]
    intro k hk
    obtain⟨hku,ok,hok,_⟩:=mem_ready.1 hk
    have hkl:k<l.length+1:=by
     have:=(A3y.1 hok).1
     simpa using this
    by_cases hke:k=l.length
    ·subst hke
     simp[Array.getD,hsz] at hku
    ·have h3:=A3V.1 hla k (A4m.2 E9)
     obtain⟨e,he,hb⟩:=Array.any_eq_true'.1 h3
     simp only[A3A,beq_iff_eq] at hb
     have h4:=hall e he hb.1
     rw[hb.2] at h4
     have hks:k<listed.size:=by omega
     rw[getD_set_ne true (fun h=>hke h.symm)] at hku
     simp only[Array.getD,hks,dif_pos] at h4 hku
     rw[h4] at hku;cases hku
   have hR:∀w',C w'->wpList P (l++[t]).toArray Q [t] a w':=by
    cases fuel with
    | zero=>exact hK.2
    | succ f=>exact hK.1 (by rw[A1a];exact hr)
   have h7:wpOp P (l++[t]).toArray Q l.length (wpList P (l++[t]).toArray Q []) a w:=by
    unfold wpOp
    rw[at_last]
    exact hR w hw
   exact wpOp_mono (fun a' w' h'=>ready_none hr h' fuel) h7
  ·have h3:=qOp_struck l t i hil _ a h2
   refine wpOp_of_qOp hw (fun a' w' hw' hK=>A2k htd hdn hla fuel _ a' E2 ?_ hK w' hw') h3
   rw[getD_set_ne true hil]
   exact hun
end
theorem region_tail{P:Program}{id:Nat}{Q:Exit->Act->World->Prop}{a:Act}{w:World}(l:List Oper)(t:Oper)(hm:P.follows .mixedOrders=true)(htd:t.dst=none)
  (hB:(Region.lexB .any (l++[struck t]).toArray && downB .any (l++[t]) && lastB .any l.length t)=true)
  (h:wpQuiet P (l++[struck t]).toArray (Cls w) (fun a'=>∀w',Cls w w'->wpList P (l++[t]).toArray Q [t] a' w') l a):(Code.region id (l++[t]).toArray true).wp P Q a w:=by
 simp only[A3A] at hB
 obtain⟨⟨hlex,hdn⟩,hla⟩:=hB
 simp only[Region.lexB,A3A] at hlex
 have h1:wpQuiet P (l++[struck t]).toArray (Cls w) (fun a'=>∀w',Cls w w'->wpList P (l++[t]).toArray Q [t] a' w') (l++[struck t]) a :=
  A1j (fun a' ha'=>BigFrame.wpQuiet_want rfl fun K hK=>BigFrame.quiet_move (.const (.bool false)) rfl (hK _ (by rw[show (struck t).dst=none from htd,put_none];exact ha'))) l a h
 have h2:=wpAnyQ_lex (C:=Cls w) (md:=.any) hlex.1 (l++[struck t]) 0 (Array.replicate (l.length+1) false) a F0 (by simpa using hlex.2) h1
 refine wp_region_any hm ?_
 have h3:=A2k htd hdn hla _ _ a F0 (by simp[Array.getD]) h2 { w with drawn:=w.drawn+1 } ⟨rfl,rfl,rfl,A3t _,fun _ _=>rfl⟩
 simpa using h3
theorem A0m{P:Program}{C:World->Prop}(l:List Oper)(t:Oper)(Q:Act->Prop):∀(r:List Oper)(a:Act),wpQuiet P (l++[t]).toArray C Q r a->wpQuiet P (l++[struck t]).toArray C Q r a
 | [],_,h=>h
 | o::r,a,h=>by
  simp only[wpQuiet] at h |-
  rw[show yielded (l++[struck t]).toArray a.tmps=yielded (l++[t]).toArray a.tmps from funext (A1s l t a.tmps)]
  split
  ·rename_i hw;rw[if_pos hw] at h;exact Oper.quiet_mono (fun a' h'=>A0m l t Q r a' h') h
  ·rename_i hw;rw[if_neg hw] at h;exact A0m l t Q r _ h
def tailB(l:List Oper):Bool:=match l.getLast? with
 | some t=>(match t.dst with|none=>true|some _=>false) && Region.lexB .any (l.dropLast++[struck t]).toArray && downB .any l && lastB .any l.dropLast.length t
 | none=>false
theorem Y8{P:Program}{id:Nat}{Q:Exit->Act->World->Prop}{a:Act}{w:World}{l:List Oper}(hm:P.follows .mixedOrders=true)(hB:tailB l=true)
  (h:wpQuiet P l.toArray (Cls w) (fun a'=>∀w',Cls w w'->wpList P l.toArray Q [l.getLast?.getD default] a' w') l.dropLast a):(Code.region id l.toArray true).wp P Q a w:=by
 unfold tailB at hB
 cases hl:l.getLast? with
 | none=>simp[hl] at hB
 | some t =>
  simp only[hl,A3A] at hB
  obtain⟨⟨⟨h1,h2⟩,h3⟩,h4⟩:=hB
  have htd:t.dst=none:=by cases hd:t.dst<;>simp_all
  have e:l=l.dropLast++[t]:=by
   have hne:l≠[]:=by intro h0;subst h0;cases hl
   have:=List.dropLast_concat_getLast hne
   rw[List.getLast?_eq_some_getLast hne] at hl
   rw[Option.some.inj hl] at this
   exact this.symm
  simp only[hl,Option.getD_some] at h
  generalize l.dropLast=l0 at *
  subst e
  exact region_tail l0 t hm htd (by simp only[A3A];exact⟨⟨h2,h3⟩,h4⟩) (A0m l0 t _ _ _ h)
def St(w0 wr:World)(L:List (Nat × Array Value × TypeId)):Prop :=
 Below w0.heap.size w0 wr/\(∀x∈L,w0.heap.size<=x.1/\blk wr x.1=some (.cells x.2.1 x.2.2 (0,0)))/\(L.map (·.1)).Nodup
theorem St.below{w0 wr:World}{L:List (Nat × Array Value × TypeId)}(h:St w0 wr L):Below w0.heap.size w0 wr:=h.1
theorem St.blk{w0 wr:World}{L:List (Nat × Array Value × TypeId)}(h:St w0 wr L)(i:Nat){b:Nat}{cs:Array Value}{t:TypeId}(hi:L[i]?=some (b,cs,t)):Go.Proofs.YtlfbfbbdpcihfaaGreat.blk wr b=some (.cells cs t (0,0)) :=
 (h.2.1 _ (A4d hi)).2
theorem St.at{w0 wr:World}{L:List (Nat × Array Value × TypeId)}(h:St w0 wr L)(i:Nat){b:Nat}{cs:Array Value}{t:TypeId}(hi:L[i]?=some (b,cs,t)) :
  Go.Proofs.YtlfbfbbdpcihfaaGreat.blk wr b=some (.cells cs t (0,0))/\(∀o,wr.cell? ⟨b,o,none⟩=cs[o]?)/\(∀o,wr.frozen? ⟨b,o,none⟩=false)/\b<wr.heap.size/\¬b=wr.heap.size:=by
 have h1:=h.blk i hi
 have h2:=G1 h1
 exact⟨h1,fun o=>cell_of_row wr b o cs t _ h1,fun o=>frozen_of_row wr b o cs t h1,h2,by omega⟩
theorem St.call{w0 wr w1:World}{L:List (Nat × Array Value × TypeId)}(h:St w0 wr L)(hb:Below wr.heap.size wr w1):St w0 w1 L :=
 ⟨chain h.1 h.1.size hb,fun x hx=>⟨(h.2.1 x hx).1,(hb.block _ (G1 (h.2.1 x hx).2)).trans (h.2.1 x hx).2⟩,h.2.2⟩
theorem St.cls{w0 wr w1:World}{L:List (Nat × Array Value × TypeId)}(h:St w0 wr L)(hb:Cls wr w1):St w0 w1 L:=h.call hb
theorem St.alloc{w0 wr:World}{L:List (Nat × Array Value × TypeId)}(h:St w0 wr L)(cs:Array Value)(t:TypeId):St w0 (wr.alloc (.cells cs t)) ((wr.heap.size,cs,t)::L):=by
 have h1:St w0 (wr.alloc (.cells cs t)) L:=h.call ((Below.refl _ _).alloc (A3t _) _)
 refine⟨h1.1,fun x hx=>?_,?_⟩
 ·rcases A3G.1 hx with rfl|hx
  ·exact⟨h.1.size,by rw[P5,if_pos rfl]⟩
  ·exact h1.2.1 x hx
 ·simp only[A3X,A4a]
  refine⟨fun hm=>?_,h.2.2⟩
  obtain⟨x,hx,he⟩:=A3C.1 hm
  have:=G1 (h.2.1 x hx).2
  omega
theorem St.alloc'{w0 wr:World}{L:List (Nat × Array Value × TypeId)}{n:Nat}{cs:Array Value}{t:TypeId}(h:St w0 wr L)(hn:n=wr.heap.size):St w0 (wr.alloc (.cells cs t)) ((n,cs,t)::L):=by
 subst hn;exact h.alloc cs t
theorem St.start(w:World):St w w []:=⟨Below.refl _ _,fun _ h=>(A3W h).elim,List.nodup_nil⟩
theorem St.setRow{w0 wr:World}{L:List (Nat × Array Value × TypeId)}(h:St w0 wr L)(i:Nat){b:Nat}{cs:Array Value}{t:TypeId}(hi:L[i]?=some (b,cs,t))(cs':Array Value):St w0 (wr.setRow b cs') (L.set i (b,cs',t)):=by
 have hm:=h.2.1 _ (A4d hi)
 have hil:i<L.length:=(A3n.1 hi).1
 refine⟨below_setRow' h.1 hm.1 _,fun x hx=>?_,?_⟩
 ·obtain⟨j,hj,rfl⟩:=List.getElem_of_mem hx
  rw[List.getElem_set]
  split
  ·exact⟨hm.1,A1e hm.2 _⟩
  ·rename_i hij
   simp only[A4w] at hj
   have hx2:=h.2.1 L[j] (A5u hj)
   refine⟨hx2.1,?_⟩
   rw[blk_setRow]
   ·exact hx2.2
   ·intro he
    have hn:=h.2.2
    have e1:(L.map (·.1))[i]'(by simpa using hil)=b:=by
     have:=(A3n.1 hi).2
     simp[this]
    have e2:(L.map (·.1))[j]'E4=b:=by simp[he]
    exact hij ((List.getElem_inj hn).1 (e1.trans e2.symm))
 ·have e:(L.set i (b,cs',t)).map (·.1)=L.map (·.1):=by
   rw[List.map_set]
   have:b=(L.map (·.1))[i]'(by simpa using hil):=by
    have:=(A3n.1 hi).2
    simp[this]
   simp only[this,List.set_getElem_self]
  rw[e];exact h.2.2
theorem St.setCell{w0 wr:World}{L:List (Nat × Array Value × TypeId)}(h:St w0 wr L)(i:Nat){b:Nat}{cs:Array Value}{t:TypeId}(hi:L[i]?=some (b,cs,t))(o:Nat)(v:Value):St w0 (wr.setCell ⟨b,o,none⟩ v) (L.set i (b,cs.setIfInBounds o v,t)):=by
 rw[setCell_eq_setRow wr b o cs t (0,0) v (h.blk i hi)]
 exact h.setRow i hi _
theorem St.tail{w0 wr:World}{x:Nat × Array Value × TypeId}{L:List (Nat × Array Value × TypeId)}(h:St w0 wr (x::L)):St w0 wr L :=
 ⟨h.1,fun y hy=>h.2.1 y (A3l _ hy),(A4a.1 (by simpa using h.2.2)).2⟩
theorem St.far{w0 wr:World}{L:List (Nat × Array Value × TypeId)}(h:St w0 wr L){b:Nat}{cs:Array Value}{t:TypeId}{fr:Nat × Nat}(hb:Go.Proofs.YtlfbfbbdpcihfaaGreat.blk w0 b=some (.cells cs t fr)) :
  Go.Proofs.YtlfbfbbdpcihfaaGreat.blk wr b=some (.cells cs t fr)/\(∀o,wr.cell? ⟨b,o,none⟩=cs[o]?)/\b<w0.heap.size/\b<wr.heap.size/\¬b=wr.heap.size:=by
 have h1:Go.Proofs.YtlfbfbbdpcihfaaGreat.blk wr b=some (.cells cs t fr):=(h.1.block b (G1 hb)).trans hb
 have h2:=G1 hb
 have h3:=h.1.size
 exact⟨h1,fun o=>cell_of_row wr b o cs t _ h1,h2,by omega,by omega⟩
end
end Go.Proofs.YtlfbfbbdpcihfaaGreat
