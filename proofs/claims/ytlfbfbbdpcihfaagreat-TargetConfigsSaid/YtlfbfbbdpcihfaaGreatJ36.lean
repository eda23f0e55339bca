/- Laws that the claim uses. No condition of their own. -/
import Derived.Test.YtlfbfbbdpcihfaaGreatJ35
set_option maxRecDepth 100000
set_option maxHeartbeats 8000000
set_option linter.all false
namespace Go.Proofs.YtlfbfbbdpcihfaaGreat
section
open Go.RowKit
def lateOKw(i s:Nat)(l:List Oper):Bool :=
 match l[i]?,l[s]? with
 | some oi,some os=>i != s && isExtract oi && isStore os && oi.guard.isNone && os.guard.isNone && os.dst.isNone && oi.apart l.toArray os && oi.after.toList.all (fun e => !Region.binds .any e || (os.after.toList.any fun e2=>Region.binds .any e2 && e2.on == e.on)) &&
   (List.range l.length).all (fun j=>j == i || j == s || waits .any l.toArray 6 os j || (match l[j]? with|some o=>o.after.toList.any (fun e=>Region.binds .any e && e.on == i)|none=>true))
 | _,_=>false
section
variable{P:Program}{Q:Exit->Act->World->Prop}{i s:Nat}{l:List Oper}
theorem late_opN{j:Nat}{K:Act->World->Prop}{a:Act}{w:World}(h:wpOp P (lateL i s l).toArray Q j K a w):wpOp P l.toArray Q j K a w:=by
 unfold wpOp at h |-
 rw[A3o,A1z] at h
 rw[A3o]
 cases hl:l[j]? with
 | none=>rw[hl] at h;exact h
 | some o =>
  rw[hl] at h
  simp only[A4I] at h |-
  by_cases hjs:j=s
  ·rw[if_pos hjs] at h
   have e:Region.wanted (lateO i o) (yielded (lateL i s l).toArray a.tmps)=Region.wanted o (yielded l.toArray a.tmps):=(late_wanted (lateO i o) a.tmps).trans rfl
   rw[e] at h
   exact h
  ·rw[if_neg hjs,late_wanted] at h
   exact h
theorem extract_quiet{o:Oper}(h:isExtract o=true)(ρ:Operand->Value)(w:World):((execOp ρ o).runT P w #[]).2=#[]:=by
 obtain⟨x,n,e⟩:=extract_is h
 unfold execOp
 rw[e]
 simp only[Instr.extract]
 split
 ·next vs _ =>
  cases vs[n]? with
  | some u=>rfl
  | none=>rfl
 ·rfl
theorem any_lateN(hok:lateOKw i s l=true)(hQ:∀(d:Option Tmp) v c a w,Q (.panic c) (a.put d v) w->Q (.panic c) a w):∀(fuel:Nat)(x:Array Bool)(a:Act)(w:World),x.size=l.length->Closed .any l.toArray x ->
  wpAny P .any (lateL i s l).toArray Q fuel x a w->wpAny P .any l.toArray Q fuel x a w:=by
 unfold lateOKw at hok
 split at hok
 rotate_left
 ·cases hok
 next oi os hi hs =>
 simp only[A3A,bne_iff_ne,ne_eq,Option.isNone_iff_eq_none] at hok
 obtain⟨⟨⟨⟨⟨⟨⟨⟨hne,hex⟩,hst⟩,hgi⟩,hgs⟩,hds⟩,hap⟩,hdeps⟩,hcov⟩:=hok
 obtain⟨h1,h2,h3⟩:=Oper.apart_spec hap
 have hil:=(A3n.1 hi).1
 have hsl:=(A3n.1 hs).1
 have bindS:∀(x:Array Bool),s∈Region.ready .any l.toArray x->∀e∈os.after,Region.binds .any e=true->x.getD e.on false=true:=by
  intro x hx e he hb
  obtain⟨_,o,ho,hall⟩:=mem_ready.1 hx
  rw[A3o,hs] at ho
  obtain rfl:=Option.some.inj ho
  exact hall e he hb
 have readyI:∀(x:Array Bool),x.getD i true=false->s∈Region.ready .any l.toArray x->i∈Region.ready .any l.toArray x:=by
  intro x hx hs2
  rw[mem_ready]
  refine⟨hx,oi,by rw[A3o];exact hi,fun e he hb=>?_⟩
  have:=A3V.1 hdeps e (by simpa using he)
  rw[hb] at this
  simp only[Bool.not_true,Bool.false_or,A5H,A3A,beq_iff_eq] at this
  obtain⟨e2,he2,hb2,hon⟩:=this
  rw[<-hon]
  exact bindS x hs2 e2 (by simpa using he2) hb2
 have hwi:∀(ops:Array Oper) tmps,Region.wanted oi (yielded ops tmps)=true:=fun ops tmps=>by unfold Region.wanted;rw[hgi]
 have hws:∀(ops:Array Oper) tmps,Region.wanted os (yielded ops tmps)=true:=fun ops tmps=>by unfold Region.wanted;rw[hgs]
 obtain⟨st,sx,sy,hsop⟩:=store_is hst
 obtain⟨ex,en,heop⟩:=extract_is hex
 intro fuel
 induction fuel using Nat.strongRecOn with
 | ind fuel ih =>
 intro x a w hx hcl hA
 cases fuel with
 | zero =>
  refine⟨A4s.2 fun j hj=>?_,hA.2⟩
  have hn:=hA.1
  by_cases hji:j≠s\/x.getD i false=true
  ·have:=A0i (i:=i) (s:=s) hj hji
   rw[hn] at this;cases this
  ·have hjs:j=s:=Decidable.byContradiction fun hh=>hji (.inl hh)
   have hxi:x.getD i true=false:=by
    rw[H8 E9 true false]
    cases hb:x.getD i false with
    | true=>exact absurd (.inr hb) hji
    | false=>rfl
   have:=A0i (i:=i) (s:=s) (readyI x hxi (hjs ▸ hj)) (.inl hne)
   rw[hn] at this;cases this
 | succ f =>
  refine⟨fun h0=>hA.1 (A4s.2 fun j hj=>by have:=late_ready' hj;rw[h0] at this;cases this),fun j hj=>?_⟩
  by_cases hji:j≠s\/x.getD i false=true
  ·exact wpOp_mono (fun a' w' hh=>ih f (Nat.lt_succ_self f) _ a' w' (by simpa using hx) (hcl.set hj) hh) (late_opN (hA.2 j (A0i hj hji)))
  ·have hjs:j=s:=Decidable.byContradiction fun hh=>hji (.inl hh)
   subst hjs
   have hxi:x.getD i true=false:=by
    rw[H8 E9 true false]
    cases hb:x.getD i false with
    | true=>exact absurd (.inr hb) hji
    | false=>rfl
   have hri:=readyI x hxi hj
   have H1:=hA.2 i (A0i hri (.inl hne))
   have H1:=late_opN H1
   unfold wpOp at H1
   rw[A3o,hi] at H1
   simp only[hwi,if_true] at H1
   replace H1:=H1.resolve_right (fun hh=>by
    have h7:=hh.1.1
    rw[extract_quiet hex] at h7
    simp at h7)
   unfold Oper.wp at H1
   rcases extract_run (P:=P) hex a.eval with⟨u,hu⟩|hbad
   rotate_left
   ·obtain⟨hx1,w1,hrun,hnp⟩:=hbad w
    rw[hrun] at H1
    cases hx1<;>first|exact H1.elim|exact absurd rfl (hnp _)
   rw[hu w] at H1
   simp only[Oper.upon] at H1
   have hsz:(x.setIfInBounds i true).size=l.length:=by simpa using hx
   have hs':j∈Region.ready .any (lateL i j l).toArray (x.setIfInBounds i true):=by
    refine A0i (ready_mono hj (Ne.symm hne)) (.inr ?_)
    simp[Array.getD,hx,hil]
   cases f with
   | zero=>have:=H1.1;rw[this] at hs';cases hs'
   | succ f =>
    have H2:=late_opN (H1.2 j hs')
    unfold wpOp at H2 |-
    rw[A3o,hs] at H2 |-
    simp only[hws,if_true] at H2 |-
    have hep:=execOp_put (ops:=l.toArray) os (by rw[hsop];intro cs b hc;cases hc) a oi.dst u h1
    rcases H2 with H2|⟨H2,H2b⟩
    rotate_left
    ·refine .inr ⟨?_,H2b⟩
     unfold Oper.asks at H2 |-
     rw[hep] at H2
     exact H2
    refine .inl ?_
    unfold Oper.wp at H2 |-
    rw[hep] at H2
    have hform:(∃w2,(execOp a.eval os).run P w=.ok .skip w2)\/∃y w2,(execOp a.eval os).run P w=.halt y w2:=by
     unfold execOp
     rw[hsop]
     simp only[Sem.run_bind]
     generalize Sem.run P (Instr.storeAt st (a.eval sx) (a.eval sy)) w=r
     cases r with
     | ok y w2=>exact .inl ⟨w2,rfl⟩
     | halt y w2=>exact .inr ⟨y,w2,rfl⟩
    rcases hform with⟨w2,hrun⟩|⟨y,w2,hrun⟩
    rotate_left
    ·rw[hrun] at H2 |-
     cases y<;>simp only[Oper.upon] at H2 |-
     exact hQ _ _ _ _ _ H2
    rw[hrun] at H2 |-
    simp only[Oper.upon,hds] at H2 |-
    have ec:(x.setIfInBounds i true).setIfInBounds j true=(x.setIfInBounds j true).setIfInBounds i true:=Array.setIfInBounds_comm _ _ (fun e=>hne e)
    rw[ec] at H2
    have hcl2:Closed .any l.toArray ((x.setIfInBounds j true).setIfInBounds i true):=by
     rw[<-ec]
     exact(hcl.set hri).set (ready_mono hj (Ne.symm hne))
    have H3:=ih f E9 _ _ _ (by simpa using hx) hcl2 H2
    have hlist:∀k,k∈Region.ready .any l.toArray (x.setIfInBounds j true)->k=i:=by
     intro k hk
     obtain⟨hk0,o,ho,hall⟩:=mem_ready.1 hk
     rw[A3o] at ho
     have hkl:=(A3n.1 ho).1
     have hc:=A3V.1 hcov k (A4m.2 hkl)
     rw[ho] at hc
     simp only[A4S,beq_iff_eq] at hc
     rcases hc with ((hc|hc)|hc)|hc
     ·exact hc
     ·subst hc
      simp[Array.getD,hx,hkl] at hk0
     ·have:=P1 hcl hj (by rw[A3o];exact hs) hc
      have:=getD_set_true (i:=j) this
      rw[H8 (by simpa[hx] using hkl) false true,hk0] at this
      cases this
     ·obtain⟨e,he,hb⟩:=A5H.1 hc
      simp only[A3A,beq_iff_eq] at hb
      have:=hall e (by simpa using he) hb.1
      rw[hb.2,getD_set_ne false (Ne.symm hne),H8 E9 false true,hxi] at this
      cases this
    have hri2:=ready_mono (i:=j) hri hne
    refine⟨fun h0=>(by rw[h0] at hri2;cases hri2),fun k hk=>?_⟩
    obtain rfl:=hlist k hk
    unfold wpOp
    rw[A3o,hi]
    simp only[hwi,if_true]
    refine .inl ?_
    unfold Oper.wp
    rw[show a.put none undef=a from rfl,hu w2]
    exact H3
theorem M7{id:Nat}{a:Act}{w:World}(i s n:Nat){l2:List Oper}(hm:P.follows .mixedOrders=true)(hok:lateOKw i s l=true)(hl:lateL i s l=l2)(hB:frontOK .any (l2.take n) (l2.drop n)=true)
  (hQ:∀(d:Option Tmp) v c a w,Q (.panic c) (a.put d v) w->Q (.panic c) a w)
  (h:wpM P .any l2.toArray w (fun a' F=>∀b w',Cls w w'->(∀x∈F,w.heap.size<=b x.1/\blk w' (b x.1)=some (.cells x.2.1 x.2.2 (0,0)))->(∀x∈F,∀y∈F,x.1≠y.1->b x.1≠b y.1)->wpList P l2.toArray Q (l2.drop n) (a' b) w') (l2.take n) 0 (fun _=>a) []) :
  (Code.region id l.toArray true).wp P Q a w:=by
 subst hl
 have h1:=any_mono hB h
 rw[lateL_len] at h1
 refine wp_region_any hm ?_
 rw[A3R]
 exact any_lateN hok hQ _ _ _ _ F0 (fun j o _ hl=>by simp only[Array.getD] at hl;split at hl<;>simp at hl) h1
end
end
section
open Go.ChangeShapes Go.WideShapes Go.ChangeAt Go.RowKit
attribute [local irreducible] wpList wpListIn Oper.quietAt wpM
section
theorem A1b{P:Program}{o:Oper}{x:Operand}{v:Value}{a:Act}{w:World}{R:Value->World->Prop}(h:R v w)(hop:o.op=.move x:=by rfl)(hx:evO a x=some v:=by rfl):MV.yieldsAt P o a R w:=by
 have hr:(execOp a.eval o).run P w=.ok (.value v) w:=by
  unfold execOp;rw[hop]
  simp[F4 hx]
 unfold MV.yieldsAt;rw[hr];exact h
theorem V4{P:Program}{o:Oper}{x:Operand}{v:Value}{a:Act}{w:World}{R:Value->World->Prop}(h:R v w)(hop:o.op=.assign x:=by rfl)(hx:evO a x=some v:=by rfl):MV.yieldsAt P o a R w:=by
 have hr:(execOp a.eval o).run P w=.ok (.value v) w:=by
  unfold execOp;rw[hop]
  simp[F4 hx]
 unfold MV.yieldsAt;rw[hr];exact h
theorem T8{w w':World}{g:Nat}{cs:Array Value}{t:TypeId}{fr:Nat × Nat}(h:blk w g=some (.cells cs t fr))(hb:Below w.heap.size w w'):blk w' g=some (.cells cs t fr):=(hb.block g (G1 h)).trans h
def PhA(B n:Nat)(ty:TypeId)(K:Nat->Array Value->Prop)(v:Value)(w:World):Prop:=∃g c cs,v=.tuple #[.slice (some ⟨g,0,none⟩) n c,.nilIface]/\B<=g/\blk w g=some (.cells cs ty (0,0))/\K c cs
def PhB(B n:Nat)(ty:TypeId)(K:Nat->Array Value->Prop)(v:Value)(w:World):Prop:=∃g c cs,v=.slice (some ⟨g,0,none⟩) n c/\B<=g/\blk w g=some (.cells cs ty (0,0))/\K c cs
def PhC(v:Value)(_:World):Prop:=v=.nilIface
section
variable{P:Program}{o:Oper}{x:Operand}{u:Value}{a:Act}{w w':World}{B n:Nat}{ty:TypeId}{K:Nat->Array Value->Prop}
theorem A2g:MV.Mon (PhA B n ty K):=fun _ _ _ ⟨g,c,cs,h1,h2,h3,h4⟩ hb=>⟨g,c,cs,h1,h2,(T8 h3 hb),h4⟩
theorem O7:MV.Mon (PhB B n ty K):=fun _ _ _ ⟨g,c,cs,h1,h2,h3,h4⟩ hb=>⟨g,c,cs,h1,h2,(T8 h3 hb),h4⟩
theorem phC_mon:MV.Mon PhC:=fun _ _ _ h _=>h
theorem phA_call{f:FuncId}{args:Array Value}(hc:Calls P f args w' (fun e w''=>∃g c cs,e=.returned (.tuple #[.slice (some ⟨g,0,none⟩) n c,.nilIface])/\w'.heap.size<=g/\blk w'' g=some (.cells cs ty (0,0))/\K c cs/\Below w'.heap.size w' w''))(hB:Cls w w'):Calls P f args w' (fun e w''=>∃v,e=.returned v/\(PhA w.heap.size n ty K v w''/\Below w'.heap.size w' w'')) :=
 hc.mono fun e w'' ⟨g,c,cs,h1,h2,h3,h4,h5⟩=>⟨_,h1,⟨g,c,cs,rfl,A3T hB.size h2,h3,h4⟩,h5⟩
theorem ext_phA0(h:PhA B n ty K u w)(hop:o.op=.extract x 0:=by rfl)(hx:evO a x=some u:=by rfl):MV.yieldsAt P o a (fun v w''=>PhB B n ty K v w''/\Below w.heap.size w w'') w:=by
 obtain⟨g,c,cs,rfl,h1,h2,h3⟩:=h
 unfold MV.yieldsAt execOp
 rw[hop]
 simp only[F4 hx,Instr.extract]
 exact⟨⟨g,c,cs,rfl,h1,h2,h3⟩,Below.refl _ _⟩
theorem ext_phA1(h:PhA B n ty K u w)(hop:o.op=.extract x 1:=by rfl)(hx:evO a x=some u:=by rfl):MV.yieldsAt P o a (fun v w''=>PhC v w''/\Below w.heap.size w w'') w:=by
 obtain⟨g,c,cs,rfl,h1,h2,h3⟩:=h
 unfold MV.yieldsAt execOp
 rw[hop]
 simp only[F4 hx,Instr.extract]
 exact⟨rfl,Below.refl _ _⟩
theorem Own.take{Bd:Nat}{H:World->List Blk->Prop}(hH:Own Bd H){W:World}{L:List Blk}{g:Nat}{cs:Array Value}(h:H w L)(h0:H W L)(hg:W.heap.size<=g)(hb:Go.Proofs.YtlfbfbbdpcihfaaGreat.blk w g=some (.cells cs ty (0,0))):H w ((g,cs,ty)::L) :=
 hH.add h h0 hg (fun hm=>by have:=hH.lt h0 hm;omega) hb
end
end
section
attribute [local irreducible] shaL
theorem cC_head{ct:Int}{M:List UInt8}{t0 t1 pv:Value}(hM:M.length=728):cut (cC ct M t0 t1 pv) 0 89=hdV ct (M.take 88):=mid_head (p:=[]) E9 F0
theorem cC_state{ct:Int}{M:List UInt8}{t0 t1 pv:Value}(hM:M.length=728):cut (cC ct M t0 t1 pv) 0 731=midC [.int .i64 ct] M [t0,t1]:=by
 unfold cut cC
 rw[if_neg (fun hh=>by have:=hh.2;rw[S7,hM] at this;simp at this),A3x]
 unfold midC
 apply Array.ext'
 rw[A5L,A4T,A4D,A4Y]
 show ([Value.int .i64 ct]++(M.map bv++([t0,t1]++[pv]))).take 731=[Value.int .i64 ct]++(M.map bv++[t0,t1])
 rw[<-A3K (M.map bv),<-A3K [Value.int .i64 ct],A4x (by simp[hM])]
theorem nodup_lenP{l R:List Pt}(h:IsMerge l R):R.length<=l.length:=by
 have h1:(R.map (·.1)).Nodup:=List.pairwise_map.2 (h.1.imp fun hlt he=>by omega)
 have h2:=nodup_le (b:=l.map (·.1)) h1 (fun a ha=>by
  obtain⟨x,hx,rfl⟩:=A3C.1 ha
  exact A3C.2 ⟨x,(K8 ((h.2 x).1 hx)).2,rfl⟩)
 simpa using h2
theorem TreeM.one{L:List Blk}{v:Value}{t:List UInt8}(h:TreeM L v t):v.oneCell'=true:=by
 obtain⟨_,b,c,sp,ty,rfl,_⟩:=h;rfl
section
variable{P:Nat}{cn bs:Int}{h l k:Value}{ct:Int}{M:List UInt8}{t0 t1:Value}{dn:Bool}
theorem vC_set737(hM:M.length=728)(q:Bool):(vC P cn bs h l k ct M t0 t1 dn).setIfInBounds 737 (.bool q)=vC P cn bs h l k ct M t0 t1 q:=by unfold vC;rw[A0q (o:=2) (by simp[hM])];rfl
theorem vC_setState{ct':Int}{M':List UInt8}{t0' t1':Value}(hM:M.length=728)(hM':M'.length=728):paste (vC P cn bs h l k ct M t0 t1 dn) 6 (midC [.int .i64 ct'] M' [t0',t1'])=vC P cn bs h l k ct' M' t0' t1' dn :=
 mid_outer (p1:=[.pointer (some ⟨P,0,none⟩),.int .i64 cn,.int .i64 bs,h,l,k]) (p2:=[.int .i64 ct]) (p2':=[.int .i64 ct']) (q1:=[t0,t1]) (q1':=[t0',t1']) (q2:=[.bool dn]) F0 rfl rfl (by rw[hM,hM']) rfl
end
def sureM(M:List UInt8)(T':Nat->List UInt8):List UInt8:=owL (forM M T' 2) 64 (restD (forM M T' 2))
theorem sureM_len{M:List UInt8}{T':Nat->List UInt8}(hM:M.length=728)(hT:∀k,(T' k).length=1024):(sureM M T').length=728:=by
 unfold sureM
 rw[K0 (by rw[P9,Y6 hM hT (A3t _)];omega),Y6 hM hT (A3t _)]
def sureP(hk:List UInt8)(n:Nat)(M:List UInt8)(T T':Nat->List UInt8)(ps:List Pt):List Pt:=ps++forP T T' 2++[(0,headC hk n ((sureM M T').take 88))]
section
variable{rd:Rdr}{w00 w0:World}{g:G4}{F F':Bool->Int->Bool->Prop}{N:Nat}{su su':List UInt8}{co co':List Int}{L:List Blk}
theorem commit_any(T T':Nat->List UInt8)(hT:∀k,(T k).length=1024)(hT':∀k,(T' k).length=1024)(tv tv':Nat->Value){C V:Nat}{cn bs:Int}{hv lv kv:Value}{hk lk:List UInt8}{ct:Nat}{M0 M:List UInt8}{pv:Value}{tyC tyV:TypeId}{Lr:List Blk}{ps R:List Pt}(hM0:M0.length=728)(hM:M.length=728)
  (hD:Dk rd w00 g F N su [] co w0 ((C,cC ct M (tv' 0) (tv' 1) pv,tyC)::(Lr++((V,vC g.P cn bs hv lv kv ct M0 (tv 0) (tv 1) false,tyV)::L))))(hR:OwL putC 129 244 ps pv Lr)(hps:okP ps/\ps.length<=900)(hA:∀k,k<2->TreeM L (tv k) (T k))(hB:∀k,k<2->TreeM L (tv' k) (T' k))(hhk:BytesM L hv hk/\hk.length<=1000000)(hlk:BytesM L lv lk/\lk.length<=1000000)(hct:ct<=1000000000)
  (hRm:IsMerge (sureP hk (ct+1) M T T' ps) R)(ok:Bool)
  (hsound:R.length<=56->soundP R)(hsure:R.length<=56->∀(w:World)(L':List Blk)(cv pv:Value) , (V,vC g.P cn bs hv lv kv ct M0 (tv 0) (tv 1) false,tyV)∈L'->Dk rd w00 g F N su [] co w L'->CellsM L' cv (encL lk ((ct+1:Nat):Int) R) (R.length+2)->PutsM L' pv R ->
   Calls Tryz.prog 204 #[.pointer (some ⟨V,0,none⟩),cv,pv,.int .i64 ((ct+1:Nat):Int)] w fun e w'=>e=.returned (if ok then .nilIface else .iface 48 (.int .i64 5))/\Dk rd w00 g F' N su' [] co' w' L') :
  Calls Tryz.prog 133 #[.pointer (some ⟨V,0,none⟩),.pointer (some ⟨C,0,none⟩)] w0 fun e w'=>∃L',(∀x∈L,x∈L') /\
   ((56<R.length/\e=.returned (.iface 48 (.int .i64 7))/\Dk rd w00 g F N su [] co w' ((V,vC g.P cn bs hv lv kv ct M0 (tv 0) (tv 1) false,tyV)::L')) \/
    (R.length<=56/\ok=true/\e=.returned .nilIface/\Dk rd w00 g F' N su' [] co' w' ((V,vC g.P cn bs hv lv kv ((ct+1:Nat):Int) (sureM M T') (tv' 0) (tv' 1) false,tyV)::L')) \/
    (R.length<=56/\ok=false/\e=.returned (.iface 48 (.int .i64 5))/\Dk rd w00 g F' N su' [] co' w' ((V,vC g.P cn bs hv lv kv ct M0 (tv 0) (tv 1) true,tyV)::L'))):=by
 have hS:=hD
 have sV:=Q4 (P:=g.P) (cn:=cn) (bs:=bs) (h:=hv) (l:=lv) (k:=kv) (ct:=ct) (t0:=tv 0) (t1:=tv 1) (dn:=false) hM0
 have vs:∀k,k<2->(vC g.P cn bs hv lv kv ct M0 (tv 0) (tv 1) false)[6+729+k]?=some (tv k):=fun k hk=>by
  match k,hk with
  | 0,_=>exact vC_735 hM0
  | 1,_=>exact vC_736 hM0
 have v3:=vC_3 (P:=g.P) (cn:=cn) (bs:=bs) (h:=hv) (l:=lv) (k:=kv) (ct:=ct) (M:=M0) (t0:=tv 0) (t1:=tv 1) (dn:=false)
 have v4:=vC_4 (P:=g.P) (cn:=cn) (bs:=bs) (h:=hv) (l:=lv) (k:=kv) (ct:=ct) (M:=M0) (t0:=tv 0) (t1:=tv 1) (dn:=false)
 have hMS:=sureM_len hM hT'
 have hMSd:sureM M T'=owL (forM M T' 2) 64 (restD (forM M T' 2)):=rfl
 have hMF:=Y6 hM hT' (A3t 2)
 have hrl:=P9 (forM M T' 2)
 have hSP:sureP hk (ct+1) M T T' ps=ps++forP T T' 2++[(0,headC hk (ct+1) ((sureM M T').take 88))]:=rfl
 obtain⟨MS,hMSx⟩:∃x,sureM M T'=x:=⟨_,rfl⟩
 obtain⟨SP,hSPx⟩:∃x,sureP hk (ct+1) M T T' ps=x:=⟨_,rfl⟩
 rw[hMSx] at hMS hMSd hSP |-
 rw[hSPx] at hSP hRm
 have hfo:=fun w h=>forest_any (rd:=rd) (w00:=w00) (g:=g) (F:=F) (N:=N) (su:=su) (l:=[]) (co:=co) (w0:=w) (L:=(V,vC g.P cn bs hv lv kv ct M0 (tv 0) (tv 1) false,tyV)::L) T T' hT hT' tv tv' (C:=C) (V:=V) (so:=6) (ct:=ct) (tyC:=tyC) hM h hR ⟨hps.1,by omega⟩ (A3m ..) (by rw[sV];omega) vs (fun k hk=>(hA k hk).mono (fun x hx=>A3l _ hx)) (fun k hk=>(hB k hk).mono (fun x hx=>A3l _ hx))
 go_enter Tryz.func133,Tryz.ntmps133
 refine ZdKm ?_;intro _ _ _ _ _
 refine F7 stp_list F1 F1 F1 F1 F1 E5 (hfo _ hS) ?_
 clear hS hR hfo
 rintro e w1 ⟨pv,Lr,rfl,hR,hS⟩
 refine⟨_,rfl,?_⟩
 refine F2 ?_
 obtain⟨MF,hMFx⟩:∃x,forM M T' 2=x:=⟨_,rfl⟩
 rw[hMFx] at hMF hMSd hrl hS
 have sC:=A2h (ct:=ct) (t0:=tv' 0) (t1:=tv' 1) (pv:=pv) hMF
 refine ZxKm ?_;clear hS;intro w hS _ _
 rw[cC_set0] at hS
 have hrest:=rest_any (w0:=w) (bV:=C) (so:=0) (pre:=[.int .i64 ((ct:Int)+1)]) (M:=MF) (post:=[tv' 0,tv' 1,pv]) (own_dk.blk 0 hS rfl) rfl hMF
 obtain⟨RD,hRD⟩:∃x,restD MF=x:=⟨_,rfl⟩
 rw[hRD] at hrest hrl hMSd
 have sRD:csz (bvs RD)=24:=by rw[F3,hrl]
 have sC:=A2h (ct:=(ct:Int)+1) (t0:=tv' 0) (t1:=tv' 1) (pv:=pv) hMF
 have hpR:=cC_paste (ct:=(ct:Int)+1) (M:=MF) (t0:=tv' 0) (t1:=tv' 1) (pv:=pv) (x:=RD) (o:=64) (q:=65) E9 E9
 rw[<-hMSd] at hpR
 repeat' (first|refine ZaKm ?_|(refine ZtKm ?_;clear hS;intro w hS)|(refine Zll ?_;(refine g_callp stp_list own_dk hS (hrest) ?_;clear hS;intro w hS))|(refine Zg ?_;go_step)|fail)
 rw[hpR] at hS
 clear hrest hpR sC
 have sC:=A2h (ct:=(ct:Int)+1) (t0:=tv' 0) (t1:=tv' 1) (pv:=pv) hMS
 have cH:=cC_head (ct:=(ct:Int)+1) (t0:=tv' 0) (t1:=tv' 1) (pv:=pv) hMS
 have cS:=cC_state (ct:=(ct:Int)+1) (t0:=tv' 0) (t1:=tv' 1) (pv:=pv) hMS
 have c731:=cC_731 (ct:=(ct:Int)+1) (t0:=tv' 0) (t1:=tv' 1) (pv:=pv) hMS
 have c0:=cC_0 (ct:=(ct:Int)+1) (M:=MS) (t0:=tv' 0) (t1:=tv' 1) (pv:=pv)
 have hVm:(V,vC g.P cn bs hv lv kv ct M0 (tv 0) (tv 1) false,tyV)∈Lr++((V,vC g.P cn bs hv lv kv ct M0 (tv 0) (tv 1) false,tyV)::L):=A3L _ (A3m ..)
 have hLs:∀x∈L,x∈Lr++((V,vC g.P cn bs hv lv kv ct M0 (tv 0) (tv 1) false,tyV)::L):=fun x hx=>A3L _ (A3l _ hx)
 have hhc:=fun w X (h:Dk rd w00 g F N su [] co w X) hX=>A2n hk hhk.2 (ct+1) E9 (MS.take 88) D1 hv w (hhk.1.at own_dk h hX)
 rw[show ((ct+1:Nat):Int)=(ct:Int)+1 by push_cast;rfl] at hhc
 have lhd:=A0A hk (ct+1) (B:=MS.take 88) D1
 obtain⟨HC,hHC⟩:∃x,headC hk (ct+1) (MS.take 88)=x:=⟨_,rfl⟩
 rw[hHC] at hhc lhd hSP
 have sHC:csz (bvs HC)=128:=by rw[F3,lhd]
 have sZ:csz (bvs (zs 128))=128:=by rw[F3,zs_len]
 generalize hVC:vC g.P cn bs hv lv kv ct M0 (tv 0) (tv 1) false=VC at *
 generalize hCC:cC ((ct:Int)+1) MS (tv' 0) (tv' 1) pv=CC at *
 refine ZdKm ?_;show _
 refine M7 13 15 15 E7 E7 B7 E7 (fun d _ _ _ _ h=>by cases d<;>exact h) ?_
 dsimp only[List.take,List.drop]
 iterate 15 (first|(refine Zw ?_;apply Exists.intro;refine⟨fun pB w' hw' hF=>?_,?_⟩;(focus (have hZ:=(own_dk).call hS hw';exact(G8 (hhc _ _ hZ (fun x hx=>A3l _ (hLs x hx))))));refine Zo ?_)|refine ZQm ?_|refine ZQz ?_|refine ZXK ?_)
 refine Zn own_dk hS ?_
 clear hS
 intro pB w hS
 try dsimp only
 generalize pB _=bh at hS |-
 have hpb:=A2F 0 lhd
 have s1:(hdV 0 HC).size=129:=by rw[<-H5,J3,lhd]
 refine ZdKm ?_;clear hS;intro w hS _ _
 refine F6 7 E7 E7 ?_
 dsimp only[List.take,List.drop]
 iterate 7 (first|(refine Zw ?_;apply Exists.intro;refine⟨fun pB w' hw' hF=>?_,?_⟩;(focus (have hZ:=(own_dk).call hS hw';exact(I9 (L8 F1 F1 hpb))));refine Zo ?_)|refine ZQm ?_|refine ZUK ?_|refine ZXK ?_)
 refine Zn own_dk hS ?_
 clear hS
 intro pB w hS
 try dsimp only
 generalize pB _=nb at hS |-
 have hfl:=A2W T T' 2
 have hfi:=forP_in (T:=T) hT' (k:=2)
 have hpo:okP (ps++forP T T' 2)/\(ps++forP T T' 2).length<=990:=by
  obtain⟨p1,p2⟩:=hps
  refine⟨fun x hx=>?_,by rw[A3k];omega⟩
  rcases A3Y.1 hx with hx|hx
  ·exact p1 x hx
  ·have:=hfi x hx;omega
 have hsp:okP SP/\SP.length<=1000:=by
  rw[hSP]
  refine⟨fun x hx=>?_,by rw[A3k,List.length_singleton];omega⟩
  rcases A3Y.1 hx with hx|hx
  ·exact hpo.1 x hx
  ·rw[A4p] at hx
   subst hx
   exact⟨lhd,by dsimp only;omega,by dsimp only;omega⟩
 replace hS:=own_dk.perm hS (List.Perm.cons _ (List.perm_append_comm_assoc [_,_] Lr _))
 refine A1G (f:=putC) (x0:=(0,HC)) (Lr:=Lr) (L:=[_,_]++_) stp_list own_dk hS hR F1 F1 F1 F1 E5 (fun a ha=>O4 (hpo.1 a ha).1) (O4 lhd) A1F D9 ?_
 clear hS hR
 intro sv2 Lr2 w2 hR hS
 rw[<-hSP] at hR
 refine F2 ?_
 refine F7 stp_list F1 F1 F1 F1 F1 E5 (MP.merge_any SP hsp.2 sv2 _ (hR.puts own_dk hsp.1 hS (fun x hx=>A4B _ hx))) ?_
 rintro e w3 ⟨sv,R',rfl,hOwn,hIM,hB3⟩
 obtain rfl:R'=R:=isMerge_unique hIM hRm
 refine⟨_,rfl,?_⟩
 have hmR:(0,HC)∈R':=(hRm.2 _).2 (by rw[hSP];rw[M5];exact if_pos rfl)
 rcases hOwn with⟨_,hnil⟩|⟨gR,cR,spR,rfl,n1,n2,n3,n4,n5⟩
 ·rw[hnil] at hmR;cases hmR
 simp only[A3F,A3q] at hS
 replace hS:=own_dk.new hS hB3 n4 n5
 clear hB3 n4 n5 hIM hVm hLs
 replace hS:=own_dk.perm hS (List.Perm.cons _ (List.perm_append_comm_assoc Lr2 [_,_,_] L))
 simp only[A3F,A3q] at hS
 have hoR:okP R':=fun x hx=>hsp.1 x (K8 ((hRm.2 x).1 hx)).2
 have hpR:∀L2:List Blk,(gR,(R'.flatMap putC++spR).toArray,244)∈L2->PutsM L2 (.slice (some ⟨gR,0,none⟩) R'.length cR) R':=fun L2 hm=>⟨hoR,.inr ⟨gR,0,cR,_,_,rfl,n1,hm,fun j x hj=>by
  rw[A3x,A3o]
  unfold putsC at hj
  rw[A3E (A3n.1 hj).1]
  exact hj⟩⟩
 generalize hGR:(R'.flatMap putC++spR).toArray=GR at *
 have hle:R'.length<=1000000:=by unfold maxLen at n2;exact A3T (nodup_lenP hRm) E9
 refine F2 ?_
 by_cases h56:R'.length<=56
 ·have h56i:¬(56:Int)<(R'.length:Int):=by omega
  have henc:=fun w X (h:Dk rd w00 g F N su [] co w X) hX hg=>encode_good lk hlk.2 ((ct+1:Nat):Int) E9 R' (hsound h56) lv _ w (hlk.1.at own_dk h hX) ((hpR X hg).at own_dk h (fun x hx=>hx))
  have lE:(encL lk ((ct+1:Nat):Int) R').length=128*(R'.length+2):=A1q lk _ hoR h56
  rw[show ((ct+1:Nat):Int)=(ct:Int)+1 by push_cast;rfl] at henc hsure lE
  obtain⟨EL,hEL⟩:∃x,encL lk ((ct:Int)+1) R'=x:=⟨_,rfl⟩
  rw[hEL] at henc hsure lE
  obtain⟨KE,hKE⟩:∃K:Nat->Array Value->Prop,K=fun c cs=>R'.length+2<=c/\∃sp,cs=(EL.map bv++sp).toArray:=⟨_,rfl⟩
  have hencK:=fun w X (h:Dk rd w00 g F N su [] co w X) hX hg=>(henc w X h hX hg).mono (R':=fun e w''=>∃g c cs,e=.returned (.tuple #[.slice (some ⟨g,0,none⟩) (R'.length+2) c,.nilIface])/\w.heap.size<=g/\blk w'' g=some (.cells cs 36 (0,0))/\KE c cs/\Below w.heap.size w w'') (by
   rintro e w'' ⟨g,c,sp,h1,h2,h3,h4,h5,h6,h7⟩
   exact⟨g,c,_,h1,h5,h6,by rw[hKE];exact⟨h2,sp,rfl⟩,h7⟩)
  clear henc
  refine ZdKm ?_;intro _ _
  have hS0:=hS
  refine MV.region_val_lit 18 E7 E7 ?_
  dsimp only[List.take,List.drop]
  iterate 18 (first|refine ZV ?_|(refine MV.wpV_want (fun _=>rfl) (fun K hK=>?_);apply Exists.intro;refine⟨fun pB w' hw' hF=>?_,hK _ _ ?_⟩;(focus (have hZ:=(own_dk).call hS hw';exact N7 own_dk hZ (hv:=by rw[A3r];first|exact v4|exact c0)));clear hK K;refine Zo ?_)|(refine MV.wpV_same (PhA w3.heap.size (R'.length+2) 36 KE) (A2g) (fun _=>rfl) (fun bb w' hw' hF=>?_) ?_;(focus (have hZ:=(own_dk).call hS hw';exact MV.yields_call (phA_call (hencK _ _ hZ (fun x hx=>by simp[hx]) F0) hw')));refine Zo ?_)|(refine MV.wpV_same (PhA w3.heap.size (R'.length+2) 36 KE) (A2g) (fun _=>rfl) (fun bb w' hw' hF=>?_) ?_;(focus (have hZ:=(own_dk).call hS hw';exact A1b ⟨MV.FactsAt.at (Φ:=PhA w3.heap.size (R'.length+2) 36 KE) 12 hF,Below.refl _ _⟩));refine Zo ?_)|(refine MV.wpV_same (PhB w3.heap.size (R'.length+2) 36 KE) (O7) (fun _=>rfl) (fun bb w' hw' hF=>?_) ?_;(focus (have hZ:=(own_dk).call hS hw';exact ext_phA0 (MV.FactsAt.at (Φ:=PhA w3.heap.size (R'.length+2) 36 KE) 13 hF)));refine Zo ?_)|(refine MV.wpV_same (PhC) (phC_mon) (fun _=>rfl) (fun bb w' hw' hF=>?_) ?_;(focus (have hZ:=(own_dk).call hS hw';exact ext_phA1 (MV.FactsAt.at (Φ:=PhA w3.heap.size (R'.length+2) 36 KE) 13 hF)));refine Zo ?_)|(refine MV.wpV_same (PhB w3.heap.size (R'.length+2) 36 KE) (O7) (fun _=>rfl) (fun bb w' hw' hF=>?_) ?_;(focus (have hZ:=(own_dk).call hS hw';exact V4 ⟨MV.FactsAt.at (Φ:=PhB w3.heap.size (R'.length+2) 36 KE) 14 hF,Below.refl _ _⟩));refine Zo ?_)|(refine MV.wpV_same (PhC) (phC_mon) (fun _=>rfl) (fun bb w' hw' hF=>?_) ?_;(focus (have hZ:=(own_dk).call hS hw';exact V4 ⟨MV.FactsAt.at (Φ:=PhC) 15 hF,Below.refl _ _⟩));refine Zo ?_))
  refine MV.wpV_nil ?_
  intro bb w hcq hfq
  replace hS:=(own_dk).call hS hcq
  try dsimp only
  have fT:=hfq (17,PhC) F0
  have fS:=hfq (16,PhB w3.heap.size (R'.length+2) 36 KE) F0
  dsimp only at fT fS
  obtain⟨T1,hT1⟩:∃x,bb (0+1+1+1+1+1+1+1+1+1+1+1+1+1+1+1+1+1)=x:=⟨_,rfl⟩
  obtain⟨X1,hX1⟩:∃x,bb (0+1+1+1+1+1+1+1+1+1+1+1+1+1+1+1+1)=x:=⟨_,rfl⟩
  rw[hT1,hX1]
  rw[show bb 17=T1 from hT1] at fT
  rw[show bb 16=X1 from hX1] at fS
  clear hfq hT1 hX1 hencK
  obtain⟨gE,cE,eC,rfl,g1,g2,g3⟩:=fS
  obtain rfl:T1=.nilIface:=fT
  replace hS:=own_dk.take hS hS0 g1 g2
  clear hS0 g2
  rw[hKE] at g3
  obtain⟨g3,spE,rfl⟩:=g3
  have hcM:CellsM ((gE,(EL.map bv++spE).toArray,36)::(gR,GR,244)::(bh,bvs HC,36)::(C,CC,tyC)::(V,VC,tyV)::(Lr2++L)) (.slice (some ⟨gE,0,none⟩) (R'.length+2) cE) EL (R'.length+2):=⟨lE,gE,0,cE,_,_,rfl,g3,A3m ..,own_cells⟩
  obtain⟨rv,hrv⟩:∃x,(if ok then Value.nilIface else .iface 48 (.int .i64 5))=x:=⟨_,rfl⟩
  rw[hrv] at hsure
  refine ZxKm ?_;intro _ _ _ _
  refine F7 stp_list F1 F1 F1 F1 F1 E5 (hsure h56 _ _ _ _ F0 hS hcM (hpR _ F0)) ?_
  clear hS hsure
  rintro e w5 ⟨rfl,hS⟩
  refine⟨_,rfl,?_⟩
  refine F2 ?_
  cases ok with
  | false =>
   obtain rfl:rv=.iface 48 (.int .i64 5):=hrv.symm
   refine ZdKm ?_;clear hS;intro w hS
   subst hVC
   rw[vC_set737 hM0] at hS
   go_ret
   have hS2:=own_dk.front hS (i:=4) rfl
   simp only[A4c,A4b] at hS2
   refine⟨_,fun x hx=>?_,.inr (.inr ⟨h56,by trivial,rfl,hS2⟩)⟩
   simp[hx]
  | true =>
   obtain rfl:rv=.nilIface:=hrv.symm
   have hon:ones (midC [.int .i64 ((ct:Int)+1)] MS [tv' 0,tv' 1])=true:=mid_ones F1 (by rw[List.all_cons,List.all_cons,(hB 0 E9).one,(hB 1 E9).one];rfl)
   have sSt:csz (midC [.int .i64 ((ct:Int)+1)] MS [tv' 0,tv' 1])=731:=by rw[S7,hMS];rfl
   have hpa:=vC_setState (P:=g.P) (cn:=cn) (bs:=bs) (h:=hv) (l:=lv) (k:=kv) (ct:=ct) (t0:=tv 0) (t1:=tv 1) (dn:=false) (ct':=(ct:Int)+1) (M':=MS) (t0':=tv' 0) (t1':=tv' 1) hM0 hMS
   rw[hVC] at hpa
   generalize hST:midC [.int .i64 ((ct:Int)+1)] MS [tv' 0,tv' 1]=ST at *
   repeat' (first|refine ZbKm ?_|(refine Zll ?_;((refine J0 stp_list own_dk hS ?_ (hv:=by(exact cS)))<;>refine F2 ?_))|(refine Zll ?_;(refine I1 stp_list own_dk hS ?_ (hv:=hon);clear hS;intro w hS;refine F2 ?_))|(refine Zg ?_;go_step)|fail)
   rw[hpa] at hS
   go_ret
   have hS2:=own_dk.front hS (i:=4) rfl
   simp only[A4c,A4b] at hS2
   refine⟨_,fun x hx=>?_,.inr (.inl ⟨h56,by trivial,rfl,hS2⟩)⟩
   simp[hx]
 ·have h56i:(56:Int)<(R'.length:Int):=by omega
  refine ZdKm ?_;intro _ _
  go_ret
  have hS2:=own_dk.front hS (i:=3) rfl
  simp only[A4c,A4b] at hS2
  subst hVC
  refine⟨_,fun x hx=>?_,.inl ⟨by omega,rfl,hS2⟩⟩
  simp[hx]
end
end
section
attribute [local irreducible] shaL
def updF{α:Type}(f:Nat->α)(k:Nat)(x:α):Nat->α:=fun j=>if j=k then x else f j
theorem updF_same{α:Type}(f:Nat->α)(k:Nat)(x:α):updF f k x k=x:=if_pos rfl
theorem updF_ne{α:Type}(f:Nat->α){k j:Nat}(x:α)(h:j≠k):updF f k x j=f j:=if_neg h
section
variable{rd:Rdr}{w00 w0:World}{g:G4}{F:Bool->Int->Bool->Prop}{N:Nat}{su:List UInt8}{l:List Pt}{co:List Int}{L:List Blk}
end
end
end
section
open Go.ChangeShapes Go.WideShapes Go.ChangeAt Go.RowKit
attribute [local irreducible] xorL sboxL subB sealV openV
end
section
open Go.ChangeShapes Go.WideShapes Go.ChangeAt Go.RowKit
attribute [local irreducible] wpList wpListIn Oper.quietAt wpM
section
attribute [local irreducible] shaL
section
variable{u m:Int}{X:List UInt8}{d:Bool}
end
theorem sl_bytes{w:World}{b o n c:Nat}{l:List UInt8}{t:TypeId}{fr:Nat × Nat}(hb:blk w b=some (.cells (bvs l) t fr))(h:o+n<=l.length)(hc:n<=c):BytesAt w (.slice (some ⟨b,o,none⟩) n c) (sl l o n) :=
 L5 hb (sl_len h) hc fun j x hj=>by
  rw[A0w] at hj
  split at hj
  ·unfold bvs;rw[A3o,A3N,hj];rfl
  ·cases hj
section
variable{rd:Rdr}{w00 w0:World}{g:G4}{F:Bool->Int->Bool->Prop}{N:Nat}{su:List UInt8}{l:List Pt}{co:List Int}{L:List Blk}
end
end
section
attribute [local irreducible] shaL
instance(priority:=2000) instVd5_1:StT Tryz.prog 254 [(0,731),(731,1)] ([.int .i64 0]++((zs 728).map bv++[.slice none 0 0,.slice none 0 0,.slice none 0 0])):=⟨by kernel_rfl⟩
theorem change_built{ct:Int}{M:List UInt8}{t0 t1:Value}(hM:M.length=728):Tryz.prog.built 254 [(0,.agg (midC [.int .i64 ct] M [t0,t1]))]=some (cC ct M t0 t1 (.slice none 0 0)) :=
 A0e (pl:=[(0,731),(731,1)]) (z:=[.int .i64 0]++((zs 728).map bv++[.slice none 0 0,.slice none 0 0,.slice none 0 0])) E5 (A0r (cs:=[.int .i64 ct]++(M.map bv++[t0,t1,.slice none 0 0])) (FillS.row (off:=0) (n:=731) rfl (by rw[S7,hM];rfl) (by simp[zs_len]) (by
  rw[A4g,A3q,A3x,show ([Value.int .i64 0]++((zs 728).map bv++[Value.slice none 0 0,.slice none 0 0,.slice none 0 0]))=([Value.int .i64 0]++((zs 728).map bv++[Value.slice none 0 0,.slice none 0 0]))++[.slice none 0 0] by simp,A5s (by simp[zs_len])]
  unfold midC
  simp) FillS.nil))
end
section
attribute [local irreducible] shaL
section
variable{rd:Rdr}{w00 w0:World}{g:G4}{F F':Bool->Int->Bool->Prop}{N:Nat}{su su':List UInt8}{co co':List Int}{L:List Blk}
end
end
section
attribute [local irreducible] shaL
def secH(key:List UInt8):List UInt8:=tagL key (strT [104,101,97,100])
def secL(key:List UInt8):List UInt8:=tagL key (strT [108,111,103])
def secW(key:List UInt8):List UInt8:=tagL key (strT [119,114,97,112])
section
variable{B:Nat}{H:World->List Blk->Prop}{w0:World}{L:List Blk}
end
end
section
attribute [local irreducible] shaL
theorem rstart_1(n:Nat)(hn:n<=1000000000)(w0:World):Calls Tryz.prog 196 #[.int .i64 (n:Int),.int .i64 (n:Int),.int .i64 (-1)] w0 fun e w'=>e=.returned (.int .i64 1)/\Below w0.heap.size w0 w':=by
 have hS:=St.start w0
 have h1:¬(n:Int)<0:=by omega
 have h2:¬(n:Int)>4611686018427387904:=by omega
 have h3:¬(-1:Int)=(n:Int)+1:=by omega
 have h4:¬(-1:Int)=(n:Int):=by omega
 go_enter Tryz.func196,Tryz.ntmps196
 repeat' (first|refine Zasm ?_|(refine Zg ?_;go_step)|fail)
 all_goals skip
 go_ret
 exact⟨rfl,hS.below⟩
theorem rstart_2(n:Nat)(hn:n<=1000000000)(w0:World):Calls Tryz.prog 196 #[.int .i64 (n:Int),.int .i64 (n:Int),.int .i64 (n:Int)] w0 fun e w'=>e=.returned (.int .i64 2)/\Below w0.heap.size w0 w':=by
 have hS:=St.start w0
 have h1:¬(n:Int)<0:=by omega
 have h2:¬(n:Int)>4611686018427387904:=by omega
 have h3:¬(n:Int)=(n:Int)+1:=by omega
 go_enter Tryz.func196,Tryz.ntmps196
 repeat' (first|refine Zasm ?_|(refine Zg ?_;go_step)|fail)
 all_goals skip
 go_ret
 exact⟨rfl,hS.below⟩
theorem rstart_3(w0:World):Calls Tryz.prog 196 #[.int .i64 ((1:Nat):Int),.int .i64 ((1:Nat):Int),.int .i64 0] w0 fun e w'=>e=.returned (.int .i64 1)/\Below w0.heap.size w0 w':=by
 have hS:=St.start w0
 go_enter Tryz.func196,Tryz.ntmps196
 repeat' (first|refine Zasm ?_|(refine Zg ?_;go_step)|fail)
 all_goals skip
 go_ret
 exact⟨rfl,hS.below⟩
theorem rstart_4(w0:World):Calls Tryz.prog 196 #[.int .i64 0,.int .i64 (-1),.int .i64 (-1)] w0 fun e w'=>e=.returned (.int .i64 4)/\Below w0.heap.size w0 w':=by
 have hS:=St.start w0
 go_enter Tryz.func196,Tryz.ntmps196
 repeat' (first|refine Zasm ?_|(refine Zg ?_;go_step)|fail)
 all_goals skip
 go_ret
 exact⟨rfl,hS.below⟩
end
end
end Go.Proofs.YtlfbfbbdpcihfaaGreat
