/-
  Laws that the claims of this seat use, of several texts in one. No condition of their own.
-/
import Derived.Test.YtggbbafanhceaaaGreatRRL45
set_option maxRecDepth 100000
set_option maxHeartbeats 8000000
set_option linter.all false
namespace Go.Proofs.YtggbbafanhceaaaGreatRR
section
open Go.ChangeShapes Go.WideShapes Go.ChangeAt Go.RowKit
theorem open_genR{P:Program}{H:Type}{enc:TypeId × Value→H}{w:World}{base:Nat}{sp:Nat→Bool}{held:Bool}{t e n fuel:Nat}{cs0:List Value}{x:DataW H × List MemPlace}{α:Type}(z:α)(f:α→List Value)(R:α→DataW H→Prop)
  (ht:P.underlying t=some (.slice e))(hc:P.cellsOf e=n)(hn:0<n)(hf:∀a,(f a).length=n)(hopen:∀fuel cs x,DataW.trod enc P w base sp held fuel e cs=some x→cs.length=n→∃a,cs=f a∧R a x.1)
  (hfu:DataW.trod enc P w base sp held fuel t cs0=some x) :
  ∃l:List α,(∃p c,cs0=[.slice p l.length c]∧l.length≤c∧(p=none→c=0)∧(l≠[]→∃b o cs t fr,p=some ⟨b,o,none⟩∧blk w b=some (.cells cs t fr)∧∀i x,(l.flatMap f)[i]?=some x→cs.toList[o+i]?=some x)) ∧
   (l=[]∨∃D sp2,x.1=.slice ((List.range l.length).map D) sp2∧∀i a,l[i]?=some a→R a (D i)):=by
 rcases Go.Deep.open_slice ht hfu with⟨rfl,_⟩|⟨a,len0,cap0,m,n2,D,Pl,rfl,_,hlc,hcm,hm,rfl,hx⟩
 ·exact⟨[],⟨none,0,rfl,A4C _,fun _=>rfl,fun h=>absurd rfl h⟩,.inl rfl⟩
 ·have hlm:len0≤m:=by rw[hm];split<;>omega
  have key:∀i,i<len0→∃x:α,(∀j,j<n→w.cell? ((a.add (i*n)).add j)=(f x)[j]?)∧R x (D i):=by
   intro i hi
   obtain⟨cs',h1,h2⟩:=hx i H6
   rw[hc] at h1
   have h3:=World.cells?_some h1
   obtain⟨x,rfl,hR⟩:=hopen _ _ _ h2 h3.2.1
   exact⟨x,h3.2.2,hR⟩
  have hgi:∀i q,((List.range len0).map fun i=>if hi:i<len0 then (key i hi).choose else z)[i]?=some q→∃hi:i<len0,q=(key i hi).choose:=by
   intro i q h1
   have hil:i<len0:=by have:=(A4v.1 h1).1;simpa using this
   simp[hil] at h1
   exact⟨hil,h1.symm⟩
  refine⟨(List.range len0).map fun i=>if hi:i<len0 then (key i hi).choose else z,⟨some a,cap0,by simp,by simp;omega,(fun h=>by cases h),fun hne=>?_⟩,.inr ⟨D,(List.range (m - len0)).map fun j=>D (len0+j),by simp,fun i q h1=>?_⟩⟩
  ·have h0:0<len0:=by
    rcases Nat.eq_zero_or_pos len0 with rfl|h
    ·exact absurd rfl hne
    ·exact h
   obtain⟨x0,hk0,_⟩:=key 0 h0
   have hk1:=hk0 0 hn
   rw[A5I,show a.add 0=a by simp[Addr.add],show a.add 0=a by simp[Addr.add],A4y (by rw[hf];exact hn)] at hk1
   obtain⟨b,o,cs,t2,e2,rfl,hb,_⟩:=blk_of_cell hk1
   refine⟨b,o,cs,t2,e2,rfl,hb,fun i x hi=>?_⟩
   obtain⟨q,h1,h2⟩:=flat_at hn hf hi
   obtain⟨hil,hq⟩:=hgi _ _ h1
   have h3:=(key (i / n) hil).choose_spec.1 (i % n) (Nat.mod_lt _ hn)
   rw[←hq,h2,A0m,A0m,cell_of_row w b _ cs t2 e2 hb] at h3
   rw[A4o,←h3]
   congr 1
   have:=Nat.div_add_mod i n
   rw[A6j] at this
   omega
  ·obtain⟨hil,hq⟩:=hgi _ _ h1
   rw[hq]
   exact(key i hil).choose_spec.2
theorem three_cells{L:List Value}{a b c:Value}(h:L.length=3)(h0:(L.drop 0).take 1=[a])(h1:(L.drop 1).take 1=[b])(h2:(L.drop 2).take 1=[c]):L=[a,b,c]:=by
 match L,h with
 | [a',b',c'],_=>simp at h0 h1 h2;simp[h0,h1,h2]
def LnT(w:World):Type:={ x:Int × Int × Value // (i64R x.1∧i64R x.2.1)∧∃l,BytesAt w x.2.2 l }
def cellsT3{w:World}(x:LnT w):List Value:=[.int .i64 x.1.1,.int .i64 x.1.2.1,x.1.2.2]
theorem cells_ln:Tryz.prog.cellsOf 96=3:=by kernel_rfl
theorem cells_sl:Tryz.prog.cellsOf 28=1:=by kernel_rfl
theorem open_line{H:Type}{enc:TypeId × Value→H}{w:World}{base fuel:Nat}{sp:Nat→Bool}{held:Bool}{cs:List Value}{x:DataW H × List MemPlace}
  (hf:DataW.trod enc Tryz.prog w base sp held fuel 96 cs=some x)(hsz:cs.length=3):∃a:LnT w,cs=cellsT3 a∧True:=by
 obtain⟨xs,n,rfl,hx,hl,hxl,hi⟩:=DataW.trod_struct Tryz.underlying96 hf
 have hxl5:xs.length=3:=hxl
 have g (i:Nat) (h:i<3):xs[i]?=some xs[i]:=A4y H6
 have h0:=(hi 0 _ rfl).trans (g 0 H6)
 have h1:=(hi 1 _ rfl).trans (g 1 H6)
 have h2:=(hi 2 _ rfl).trans (g 2 H6)
 obtain⟨x0,e0,wf0⟩:=trod_int1 Tryz.underlying3 h0
 obtain⟨x1,e1,wf1⟩:=trod_int1 Tryz.underlying3 h1
 obtain⟨v2,l2,e2,hb,_⟩:=trod_bytes8 Tryz.underlying63 Tryz.underlying5 G8 h2
 exact⟨⟨(x0,x1,v2),⟨i64_of wf0,i64_of wf1⟩,l2,hb⟩,three_cells hsz e0 e1 e2,trivial⟩
theorem t3_at{w:World}:∀{l:List (LnT w)}{i:Nat}{x:LnT w},l[i]?=some x→(l.flatMap cellsT3)[i*3]?=some (.int .i64 x.1.1)∧(l.flatMap cellsT3)[i*3+1]?=some (.int .i64 x.1.2.1)∧(l.flatMap cellsT3)[i*3+2]?=some x.1.2.2
 | [],i,x,h=>by simp at h
 | y::l,0,x,h=>by simp at h;subst h;simp[cellsT3]
 | y::l,i+1,x,h=>by
  have ih:=t3_at (l:=l) (i:=i) (x:=x) G6
  rw[A5n]
  have e:(cellsT3 y).length=3:=rfl
  rw[A4Q H6,A4Q H6,A4Q H6,e,show (i+1)*3 - 3=i*3 by omega,show (i+1)*3+1 - 3=i*3+1 by omega,show (i+1)*3+2 - 3=i*3+2 by omega]
  exact ih
theorem lnAt_of{w:World}{l:List (LnT w)}{v:Value}(h:∃p c,[v]=[Value.slice p l.length c]∧l.length≤c∧(p=none→c=0)∧(l≠[]→∃b o cs t fr,p=some ⟨b,o,none⟩∧blk w b=some (.cells cs t fr)∧∀i x,(l.flatMap cellsT3)[i]?=some x→cs.toList[o+i]?=some x)) :
  LnAt w v (l.map fun x=>(x.1.1,x.1.2.1,x.2.2.choose)):=by
 obtain⟨p,c,h1,h2,h3,h4⟩:=h
 rw[List.cons.injEq] at h1
 have key:∀(i:Nat)(u m:Int)(x:List UInt8),(l.map fun x=>((x.1.1,x.1.2.1,x.2.2.choose):Lw))[i]?=some (u,m,x)→∃y,l[i]?=some y∧y.1.1=u∧y.1.2.1=m∧BytesAt w y.1.2.2 x:=by
  intro i u m x hi
  rw[A4U] at hi
  cases hy:l[i]? with
  | none=>rw[hy] at hi;cases hi
  | some y =>
   rw[hy] at hi
   simp only[A5J,Option.some.injEq,Prod.mk.injEq] at hi
   exact⟨y,rfl,hi.1,hi.2.1,by rw[←hi.2.2];exact y.2.2.choose_spec⟩
 refine⟨l.map fun x=>x.1.2.2,fun i u m x hi=>?_,p,c,by rw[A4z];exact h1.1,by rw[A4z];exact h2,h3,fun hne=>?_⟩
 ·obtain⟨y,e1,e2,e3,e4⟩:=key i u m x hi
  exact⟨y.1.2.2,by rw[A4U,e1];rfl,e4,by rw[←e2];exact y.2.1.1,by rw[←e3];exact y.2.1.2⟩
 ·obtain⟨b,o,cs,t,fr,h5,h6,h7⟩:=h4 (by intro e;exact hne (by rw[e];rfl))
  refine⟨b,o,cs,t,fr,h5,h6,fun i u m x sv hi hs=>?_⟩
  obtain⟨y,e1,e2,e3,e4⟩:=key i u m x hi
  rw[A4U,e1] at hs
  simp only[A5J,Option.some.injEq] at hs
  obtain⟨f1,f2,f3⟩:=t3_at e1
  have g1:=h7 _ _ f1
  have g2:=h7 _ _ f2
  have g3:=h7 _ _ f3
  rw[A4o] at g1 g2 g3
  rw[←hs,←e2,←e3,A6c,A6c]
  exact⟨g1,g2,g3⟩
theorem bulk_one{H:Type}(d:DataW H):1≤Rows.uptoBulk d:=by
 cases d with
 | lit l=>cases l<;>simp[Rows.uptoBulk]
 | nil=>simp[Rows.uptoBulk]
 | ptr d=>simp[Rows.uptoBulk]
 | slice elems spare=>simp[Rows.uptoBulk]
 | agg parts=>simp[Rows.uptoBulk]
 | iface t d=>simp[Rows.uptoBulk]
 | map entries=>simp[Rows.uptoBulk]
 | held h=>simp[Rows.uptoBulk]
theorem bulk_len{H:Type}:∀l:List (DataW H),l.length≤Rows.uptoBulkAll l
 | []=>A4C _
 | x::r=>by have:=bulk_one x;have:=bulk_len r;simp only[Rows.uptoBulkAll,A4G];omega
theorem bulk_sum{H:Type}:∀{ls:List (List Lw)}{D:Nat→DataW H},(∀i l,ls[i]?=some l→1+l.length≤Rows.uptoBulk (D i))→sumN ls≤Rows.uptoBulkAll ((List.range ls.length).map D)
 | [],_,_=>Nat.zero_le _
 | x::ls,D,h=>by
  have h0:=h 0 x rfl
  have ih:=bulk_sum (ls:=ls) (D:=fun i=>D (i+1)) (fun i l hi=>h (i+1) l hi)
  rw[A4G,List.range_succ_eq_map,A5f,List.map_map]
  simp only[Rows.uptoBulkAll,sumN]
  exact Nat.add_le_add h0 ih
theorem slf_at{α:Type}{f:α→Value}:∀{l:List α}{i:Nat}{x:α},l[i]?=some x→(l.flatMap fun y=>[f y])[i]?=some (f x)
 | [],i,x,h=>by simp at h
 | y::l,0,x,h=>by simp at h;subst h;simp
 | y::l,i+1,x,h=>by
  have ih:=slf_at (f:=f) (l:=l) (i:=i) (x:=x) G6
  rw[A5n,List.singleton_append,A6o]
  exact ih
theorem open_lls{H:Type}{enc:TypeId × Value→H}{w:World}{base:Nat}{sp:Nat→Bool}{held:Bool}{v:Value}{d:DataW H}{p:List MemPlace}
  (hv:∃a len cap,v=.slice a len cap)(hr:DataW.Trod enc Tryz.prog w base sp held 26 v d p):∃ls:List (List Lw),LLAt w v ls∧sumN ls≤Rows.uptoBulk d:=by
 obtain⟨a0,len0,cap0,rfl⟩:=hv
 obtain⟨fuel,hfu⟩:=hr
 obtain⟨l,⟨p,c,h1,h2,h3,h4⟩,hR⟩:=open_genR (α:={ y:Value × List Lw // LnAt w y.1 y.2 }) (z:=⟨(.slice none 0 0,[]),⟨[],(fun i u m x h=>by simp at h),none,0,rfl,A4C _,fun _=>rfl,fun h=>absurd rfl h⟩⟩) (fun y=>[y.1.1]) (fun y d=>1+y.1.2.length≤Rows.uptoBulk d) Tryz.underlying26 cells_sl H6 (fun _=>rfl) (fun fuel cs x hf hl=>by
  obtain⟨l,h1,h2⟩:=open_genR (z:=(⟨(0,0,.slice none 0 0),⟨⟨by decide,by decide⟩,by decide,by decide⟩,[],⟨none,0,rfl,A4C _,fun _=>rfl,fun h=>absurd rfl h⟩⟩:LnT w)) cellsT3 (fun _ _=>True) Tryz.underlying28 cells_ln H6 (fun _=>rfl) (fun _ _ _ hf hl=>open_line hf hl) hf
  have h3:=h1
  obtain⟨p,c,rfl,_⟩:=h3
  refine⟨⟨(_,_),lnAt_of h1⟩,rfl,?_⟩
  refine A4T (Nat.add_le_add_left (Nat.le_of_eq (A4z _)) 1) ?_
  rcases h2 with rfl|⟨D,sp2,h5,_⟩
  ·exact bulk_one x.1
  ·rw[h5]
   simp only[Rows.uptoBulk]
   have h6:=bulk_len ((List.range l.length).map D)
   rw[A4z,A6l] at h6
   exact A4T (Nat.add_le_add_left h6 1) H6) hfu
 have hlen:(l.map fun y=>y.1.2).length=l.length:=by rw[A4z]
 simp only[Value.cells,List.cons.injEq,and_true] at h1
 refine⟨l.map fun y=>y.1.2,⟨l.map fun y=>y.1.1,fun i x hi=>?_,p,c,by rw[hlen];exact h1,by rw[hlen];exact h2,h3,fun hne=>?_⟩,?_⟩
 ·rw[A4U] at hi
  cases hy:l[i]? with
  | none=>rw[hy] at hi;cases hi
  | some y =>
   rw[hy] at hi
   simp only[A5J,Option.some.injEq] at hi
   exact⟨y.1.1,by rw[A4U,hy];rfl,by rw[←hi];exact y.2⟩
 ·obtain⟨b,o,cs,t,fr,h5,h6,h7⟩:=h4 (by intro e;exact hne (by rw[e];rfl))
  refine⟨b,o,cs,t,fr,h5,h6,fun i x sv hi hs=>?_⟩
  rw[A4U] at hs
  cases hy:l[i]? with
  | none=>rw[hy] at hs;cases hs
  | some y =>
   rw[hy] at hs
   simp only[A5J,Option.some.injEq] at hs
   have g1:=h7 _ _ (slf_at hy)
   rw[A4o] at g1
   rw[←hs];exact g1
 ·rcases hR with rfl|⟨D,sp2,h5,h6⟩
  ·exact Nat.zero_le _
  ·have h8:d=.slice ((List.range l.length).map D) sp2:=h5
   rw[h8]
   have h7:=bulk_sum (ls:=l.map fun y=>y.1.2) (D:=D) (fun i q hi=>by
    rw[A4U] at hi
    cases hy:l[i]? with
    | none=>rw[hy] at hi;cases hi
    | some y =>
     rw[hy] at hi
     simp only[A5J,Option.some.injEq] at hi
     rw[←hi];exact h6 i y hy)
   rw[hlen] at h7
   simp only[Rows.uptoBulk]
   omega
end
end Go.Proofs.YtggbbafanhceaaaGreatRR
