/- Laws that the claim uses. No condition of their own. -/
import Derived.Test.YtlfbfbbdpcihfaaGreatJ27
set_option maxRecDepth 100000
set_option maxHeartbeats 8000000
set_option linter.all false
namespace Go.Proofs.YtlfbfbbdpcihfaaGreat
section
open Go.ChangeShapes Go.WideShapes Go.ChangeAt Go.RowKit
attribute [local irreducible] wpList wpListIn Oper.quietAt wpM
open Go.Maps
def RdCel(rd:Value->Option (DataW Unit × List MemPlace)):Prop:=(∀C:List UInt8,C.length=128->rd (.agg (bvs C))=some (.lit (.string C),[]))/\∀v y,rd v=some y->∃C:List UInt8,C.length=128/\v=.agg (bvs C)/\y=(.lit (.string C),[])
theorem rdCel_exists:∃rd,RdCel rd:=by
 classical
 refine⟨fun v=>if h:∃C:List UInt8,C.length=128/\v=.agg (bvs C) then some (.lit (.string h.choose),[]) else none,fun C hC=>?_,fun v y hy=>?_⟩
 ·have h:∃E:List UInt8,E.length=128/\Value.agg (bvs C)=.agg (bvs E):=⟨C,hC,rfl⟩
  dsimp only
  rw[dif_pos h]
  have h2:=h.choose_spec.2
  rw[<-bvs_inj (show bvs C=bvs h.choose by simpa using h2)]
 ·dsimp only at hy
  split at hy
  ·rename_i h
   cases hy
   exact⟨h.choose,h.choose_spec.1,h.choose_spec.2,rfl⟩
  ·cases hy
def MapC(l:List Pt)(D:DataW Unit):Prop:=IsMap D/\(∀a x,lastP l a=some x->∀z,D.atKey (.int .i64 a) z=.lit (.string x.2))/\(∀a,lastP l a=none->∀z,D.atKey (.int .i64 a) z=z)
theorem mapC_nil:MapC [] (.map []):=⟨⟨[],rfl⟩,fun a x h=>by simp[lastP] at h,fun a _ z=>rfl⟩
theorem mapC_snoc{l:List Pt}{D:DataW Unit}(h:MapC l D)(a:Int)(C:List UInt8):MapC (l++[(a,C)]) (D.put (.int .i64 a) (.lit (.string C))):=by
 obtain⟨h1,h2,h3⟩:=h
 refine⟨h1.put _ _,fun b y hy z=>?_,fun b hy z=>?_⟩
 ·rw[M5] at hy
  by_cases he:a=b
  ·rw[if_pos he] at hy
   cases hy
   rw[<-he]
   exact atKey_put_same h1 (by trivial) _ _
  ·rw[if_neg he] at hy
   rw[atKey_put_other (fun e=>he (by cases e;rfl))]
   exact h2 b y hy z
 ·rw[M5] at hy
  by_cases he:a=b
  ·rw[if_pos he] at hy;cases hy
  ·rw[if_neg he] at hy
   rw[atKey_put_other (fun e=>he (by cases e;rfl))]
   exact h3 b hy z
theorem mapC_has{l:List Pt}{D:DataW Unit}(h:MapC l D)(a:Int):has D (.int .i64 a)=true↔∃x,lastP l a=some x:=by
 constructor
 ·intro hh
  cases hl:lastP l a with
  | some x=>exact⟨x,rfl⟩
  | none=>rw[has_false_of_atKey (h.2.2 a hl)] at hh;cases hh
 ·rintro⟨x,hx⟩
  exact has_true_of_atKey (h.2.1 a x hx)
theorem paste_owL{a b:List UInt8}{o:Nat}(_h:o+b.length<=a.length):paste (bvs a) o (bvs b)=bvs (owL a o b):=by
 by_cases hw:o=0/\a.length=b.length
 ·obtain⟨rfl,hl⟩:=hw
  rw[A1v _ _ (by rw[F3,F3,hl])]
  unfold owL
  rw[A4g,A3q,A3M E9,A3Q]
 ·rw[paste_bvs hw,A3K];rfl
def vints(l:List Int):Array Value:=(l.map (Value.int .i64)).toArray
def pC(ar:Bool)(lf:Int)(dn:Bool)(st:Int)(S C B N K:Nat):Array Value:=#[.bool ar,.int .i64 lf,.bool dn,.slice (some ⟨S,0,none⟩) N N,.map (some B),.slice (some ⟨C,0,none⟩) K K,.int .i64 st]
def i64R(a:Int):Prop := -9223372036854775808<=a/\a<=9223372036854775807
structure G4 where
 P:Nat
 S:Nat
 C:Nat
 B:Nat
def Fon(ar:Bool)(_lf:Int)(dn:Bool):Prop:=ar=false/\dn=false
def dkB(g:G4)(ar:Bool)(lf:Int)(dn:Bool)(st:Int)(N:Nat)(su:List UInt8)(co:List Int):List Blk:=[(g.P,pC ar lf dn st g.S g.C g.B N co.length,115),(g.S,bvs su,36),(g.C,vints co,3)]
def dkOk(N:Nat)(su:List UInt8)(l:List Pt)(co:List Int):Prop:=(1<=N/\N<=2048)/\su.length=128*N/\inP N l/\(1<=co.length/\co.length<=16)/\l.length<=100000/\∀x∈co,i64R x
abbrev Rdr:=Value->Option (DataW Unit × List MemPlace)
def Dk(rd:Rdr)(w0:World)(g:G4)(F:Bool->Int->Bool->Prop)(N:Nat)(su:List UInt8)(l:List Pt)(co:List Int)(w:World)(L:List Blk):Prop:=∃(ar:Bool)(lf:Int)(dn:Bool)(st:Int)(D:DataW Unit),F ar lf dn/\i64R lf/\i64R st/\dkOk N su l co/\MapC l D/\MP.StM rd w0 g.B l.length D w (dkB g ar lf dn st N su co++L)
theorem Own.mid{B:Nat}{H:World->List Blk->Prop}(hH:Own B H){w:World}{x:Blk}{F L:List Blk}(h:H w (x::(F++L))):H w (F++x::L):=by
 have hp:(x::(F++L)).Perm (F++x::L):=List.perm_middle.symm
 exact hH.sub h (fun y hy=>hp.mem_iff.2 hy) ((hp.map (fun x:Blk=>x.1)).nodup_iff.1 (hH.nodup h))
theorem Own.erase{B:Nat}{H:World->List Blk->Prop}(hH:Own B H){w:World}{L:List Blk}(i:Nat)(h:H w L):H w (L.eraseIdx i) :=
 hH.sub h (fun _ hx=>A5v hx) ((hH.nodup h).sublist ((List.eraseIdx_sublist L i).map _))
theorem A0Q{B:Nat}{H:World->List Blk->Prop}(hH:Own B H)(F:List Blk):Own B (fun w L=>H w (F++L)) where
 blk:=fun {w L} i {b cs t} h hi=>hH.blk (F.length+i) h (by rw[A3P E9,A4e];exact hi)
 call:=fun h hb=>hH.call h hb
 alloc:=fun {w L} cs t h=>by
  have h1:=hH.alloc cs t h
  exact hH.mid h1
 setRow:=fun {w L} i {b cs t} cs' h hi=>by
  have h1:=hH.setRow (F.length+i) cs' h (by rw[A3P E9,A4e];exact hi)
  rwa [A4Q _ _ E9,A4e] at h1
 size:=fun h=>hH.size h
 add:=fun {w W L L' b cs t} h hW hg hn hb=>by
  have h1:=hH.add h hW hg (fun hm=>by
   rw[A3J,A3Y] at hm
   rcases hm with hm|hm
   ·have:=hH.lt hW (b:=b) (by rw[A3J,A3Y];exact .inl hm)
    omega
   ·exact hn hm) hb
  exact hH.mid h1
 nodup:=fun h=>by
  have:=hH.nodup h
  rw[A3J] at this
  exact this.sublist (List.sublist_append_right _ _)
 sub:=fun {w L L'} h hx hn=>hH.sub h (fun x hm=>by
  rcases A3Y.1 hm with hm|hm
  ·exact A4B _ hm
  ·exact A3L _ (hx x hm)) (by
  have h1:=hH.nodup h
  rw[A3J,A5e] at h1 |-
  refine⟨h1.1,hn,fun a ha b hb=>h1.2.2 a ha b ?_⟩
  obtain⟨y,hy,rfl⟩:=A3C.1 hb
  exact A3C.2 ⟨y,hx y hy,rfl⟩)
theorem own_dk{rd:Rdr}{w0:World}{g:G4}{F:Bool->Int->Bool->Prop}{N:Nat}{su:List UInt8}{l:List Pt}{co:List Int}:Own w0.heap.size (Dk rd w0 g F N su l co) where
 blk:=fun {w L} i {b cs t} ⟨ar,lf,dn,st,D,h1,h2,h3,h4,h5,h⟩ hi=>(A0Q MP.own_stM _).blk i h hi
 call:=fun ⟨ar,lf,dn,st,D,h1,h2,h3,h4,h5,h⟩ hb=>⟨ar,lf,dn,st,D,h1,h2,h3,h4,h5,(A0Q MP.own_stM _).call h hb⟩
 alloc:=fun cs t ⟨ar,lf,dn,st,D,h1,h2,h3,h4,h5,h⟩=>⟨ar,lf,dn,st,D,h1,h2,h3,h4,h5,(A0Q MP.own_stM _).alloc cs t h⟩
 setRow:=fun i _ _ _ cs' ⟨ar,lf,dn,st,D,h1,h2,h3,h4,h5,h⟩ hi=>⟨ar,lf,dn,st,D,h1,h2,h3,h4,h5,(A0Q MP.own_stM _).setRow i cs' h hi⟩
 size:=fun ⟨ar,lf,dn,st,D,h1,h2,h3,h4,h5,h⟩=>(A0Q MP.own_stM _).size h
 add:=fun {w W L L' b cs t} ⟨ar,lf,dn,st,D,h1,h2,h3,h4,h5,h⟩ ⟨_,_,_,_,_,_,_,_,_,_,hW⟩ hg hn hb=>⟨ar,lf,dn,st,D,h1,h2,h3,h4,h5,by
  have hz:MP.StM rd w0 g.B l.length D w ((b,cs,t)::(dkB g ar lf dn st N su co++L)):=⟨h.1.add (A3T hW.1.1.size hg) (fun hm=>by
   rw[A3J,A3Y] at hm
   rcases hm with hm|hm
   ·have:=MP.own_stM.lt hW (b:=b) (by rw[A3J,A3Y];exact .inl hm)
    omega
   ·exact hn hm) hb,h.2⟩
  exact MP.own_stM.mid hz⟩
 nodup:=fun ⟨ar,lf,dn,st,D,h1,h2,h3,h4,h5,h⟩=>(A0Q MP.own_stM _).nodup h
 sub:=fun ⟨ar,lf,dn,st,D,h1,h2,h3,h4,h5,h⟩ hx hn=>⟨ar,lf,dn,st,D,h1,h2,h3,h4,h5,(A0Q MP.own_stM _).sub h hx hn⟩
end
section
open Go.ChangeShapes Go.WideShapes Go.ChangeAt Go.RowKit
attribute [local irreducible] wpList wpListIn Oper.quietAt wpM
section
variable{P:Program}{o:Oper}{a:Act}{w:World}
theorem r_eqPN{t t' te:TypeId}{x:Operand}{p:Option Addr}(hop:o.op=.binOp .eql t x (.const (.pointer none)) t')(hx:evO a x=some (.pointer p))(hu:P.underlying t=some (.pointer te)):(execOp a.eval o).run P w=.ok (.value (.bool p.isNone)) w:=by
 unfold execOp;rw[hop]
 have hg:(eqGuard .eql t x (.const (.pointer none)) (.pointer p) (.pointer none)).run P w=.ok () w:=by unfold eqGuard;rfl
 have hb:(binOp .eql t (.pointer p) (.pointer none)).run P w=.ok (.bool p.isNone) w:=by
  have h:∀d:Nat,(Op.equalIn (d+1) t (.pointer p) (.pointer none)).run P w=.ok p.isNone w:=fun d=>by
   cases p<;>simp[Op.equalIn,run_underlying hu]
  simp only[binOp]
  simp[Op.equal,Op.maxDepth,h 9999]
 simp only[F4 hx,show a.eval (.const (.pointer none))=.pointer none from rfl,Sem.run_bind,hg,Result.andThen_ok,hb]
 rfl
theorem r_nePN{t t' te:TypeId}{x:Operand}{p:Option Addr}(hop:o.op=.binOp .neq t x (.const (.pointer none)) t')(hx:evO a x=some (.pointer p))(hu:P.underlying t=some (.pointer te)):(execOp a.eval o).run P w=.ok (.value (.bool (!p.isNone))) w:=by
 unfold execOp;rw[hop]
 have hg:(eqGuard .neq t x (.const (.pointer none)) (.pointer p) (.pointer none)).run P w=.ok () w:=by unfold eqGuard;rfl
 have hb:(binOp .neq t (.pointer p) (.pointer none)).run P w=.ok (.bool (!p.isNone)) w:=by
  have h:∀d:Nat,(Op.equalIn (d+1) t (.pointer p) (.pointer none)).run P w=.ok p.isNone w:=fun d=>by
   cases p<;>simp[Op.equalIn,run_underlying hu]
  simp only[binOp]
  simp[Op.equal,Op.maxDepth,h 9999]
 simp only[F4 hx,show a.eval (.const (.pointer none))=.pointer none from rfl,Sem.run_bind,hg,Result.andThen_ok,hb]
 rfl
theorem r_subV{t t':TypeId}{x y:Operand}{m n:Int}(hop:o.op=.binOp .sub t x y t')(hx:evO a x=some (.int .i64 m))(hy:evO a y=some (.int .i64 n)):(execOp a.eval o).run P w=.ok (.value (.int .i64 (wrap64 (m - n)))) w:=by
 unfold execOp;rw[hop]
 have e:IntKind.i64.wrap (m - n)=wrap64 (m - n):=by rw[IntKind.wrap_i64];unfold wrap64;omega
 simp[F4 hx,F4 hy,eqGuard,binOp,Op.intArith,e]
theorem r_addV{t t':TypeId}{x y:Operand}{m n:Int}(hop:o.op=.binOp .add t x y t')(hx:evO a x=some (.int .i64 m))(hy:evO a y=some (.int .i64 n)):(execOp a.eval o).run P w=.ok (.value (.int .i64 (wrap64 (m+n)))) w:=by
 unfold execOp;rw[hop]
 have e:IntKind.i64.wrap (m+n)=wrap64 (m+n):=by rw[IntKind.wrap_i64];unfold wrap64;omega
 simp[F4 hx,F4 hy,eqGuard,binOp,Op.intArith,e]
end
theorem Z4(a:Int):i64R (wrap64 a):=by unfold i64R wrap64;omega
theorem vints_at{co:List Int}{i:Nat}(h:i<co.length):(vints co)[i]?=some (.int .i64 (co.getD i 0)):=by
 unfold vints
 rw[A3o,A3N,A3p h,A3I,A3p h];rfl
section
variable{ar dn:Bool}{lf st:Int}{S C B N K p:Nat}{fr:Nat × Nat}{ty:TypeId}{w0:World}
theorem A2P(hN:N<=2048)(hP:blk w0 p=some (.cells (pC ar lf dn st S C B N K) ty fr)) :
  Calls Tryz.prog 41 #[.pointer (some ⟨p,0,none⟩)] w0 fun e w'=>e=.returned (.int .i64 (N:Int))/\Below w0.heap.size w0 w':=by
 have hS:=St.start w0
 unfold pC at hP
 go_enter Tryz.func41,Tryz.ntmps41
 repeat' (first|refine Zasm ?_|refine Zvs ?_|(refine Zll ?_;(refine Stp.go stp_list F1 F1 (r_eqPN F1 F1 Tryz.underlying72) ?_;refine F2 ?_))|(refine Zg ?_;go_step)|fail)
 go_ret
 exact⟨rfl,hS.below⟩
theorem has_in(hN:N<=2048)(za:Int)(h0:0<=za)(h1:za<(N:Int))(hP:blk w0 p=some (.cells (pC ar lf dn st S C B N K) ty fr)) :
  Calls Tryz.prog 73 #[.pointer (some ⟨p,0,none⟩),.int .i64 za] w0 fun e w'=>e=.returned (.bool true)/\Below w0.heap.size w0 w':=by
 have hS:=St.start w0
 have hsz:=fun w (h:blk w p=some (.cells (pC ar lf dn st S C B N K) ty fr))=>A2P (w0:=w) hN h
 go_enter Tryz.func73,Tryz.ntmps73
 repeat' (first|refine Zasm ?_|(refine Zll ?_;(refine g_calls hS (hsz _ (hS.far hP).1) ?_;clear hS;intro w hS))|(refine Zg ?_;go_step)|fail)
 go_ret
 exact⟨rfl,hS.below⟩
theorem counted_any(hK:K<=16)(i:Int)(q:Bool)(hq:decide (0<=i/\i<(K:Int))=q)(hP:blk w0 p=some (.cells (pC ar lf dn st S C B N K) ty fr)) :
  Calls Tryz.prog 120 #[.pointer (some ⟨p,0,none⟩),.int .i64 i] w0 fun e w'=>e=.returned (.bool q)/\Below w0.heap.size w0 w':=by
 have hS:=St.start w0
 unfold pC at hP
 by_cases h0:0<=i
 ·by_cases h1:i<(K:Int)
  ·rw[decide_eq_true (show 0<=i/\i<(K:Int) from⟨h0,h1⟩)] at hq
   subst hq
   go_enter Tryz.func120,Tryz.ntmps120
   repeat' (first|refine Zasm ?_|refine Zvs ?_|(refine Zll ?_;(refine Stp.go stp_list F1 F1 (r_nePN F1 F1 Tryz.underlying72) ?_;refine F2 ?_))|(refine Zg ?_;go_step)|fail)
   go_ret
   exact⟨rfl,hS.below⟩
  ·rw[decide_eq_false (show ¬(0<=i/\i<(K:Int)) from fun h=>h1 h.2)] at hq
   subst hq
   go_enter Tryz.func120,Tryz.ntmps120
   repeat' (first|refine Zasm ?_|(refine Zll ?_;((refine G3 stp_list (by exact((hS).far hP).1) ?_)<;>refine F2 ?_))|(refine Zll ?_;(refine Stp.go stp_list F1 F1 (r_nePN F1 F1 Tryz.underlying72) ?_;refine F2 ?_))|(refine Zg ?_;go_step)|fail)
   go_ret
   exact⟨rfl,hS.below⟩
 ·rw[decide_eq_false (show ¬(0<=i/\i<(K:Int)) from fun h=>h0 h.1)] at hq
  subst hq
  go_enter Tryz.func120,Tryz.ntmps120
  repeat' (first|refine Zasm ?_|(refine Zll ?_;(refine Stp.go stp_list F1 F1 (r_nePN F1 F1 Tryz.underlying72) ?_;refine F2 ?_))|(refine Zg ?_;go_step)|fail)
  go_ret
  exact⟨rfl,hS.below⟩
def cntV(co:List Int)(i:Int):Value:=if 0<=i/\i<(co.length:Int) then .tuple #[.int .i64 (co.getD i.toNat 0),.nilIface] else .tuple #[.int .i64 0,.iface 48 (.int .i64 1)]
theorem A1B{co:List Int}{ty2:TypeId}(hK:co.length<=16)(i:Int)(hP:blk w0 p=some (.cells (pC ar lf dn st S C B N co.length) ty fr))(hC:blk w0 C=some (.cells (vints co) ty2 fr)) :
  Calls Tryz.prog 80 #[.pointer (some ⟨p,0,none⟩),.int .i64 i] w0 fun e w'=>e=.returned (cntV co i)/\Below w0.heap.size w0 w':=by
 have hS:=St.start w0
 obtain⟨q,hq⟩:∃q,decide (0<=i/\i<(co.length:Int))=q:=⟨_,rfl⟩
 have hct:=fun w (h:blk w p=some (.cells (pC ar lf dn st S C B N co.length) ty fr))=>counted_any (w0:=w) hK i q hq h
 cases q with
 | true =>
  have h:=of_decide_eq_true hq
  have hv:=vints_at (co:=co) (i:=i.toNat) E9
  have e1:cntV co i=.tuple #[.int .i64 (co.getD i.toNat 0),.nilIface]:=if_pos h
  obtain⟨x,hx⟩:∃x,co.getD i.toNat 0=x:=⟨_,rfl⟩
  rw[hx] at hv e1
  rw[e1]
  go_enter Tryz.func80,Tryz.ntmps80
  repeat' (first|refine Zasm ?_|(refine Zll ?_;(refine g_calls hS (hct _ (hS.far hP).1) ?_;clear hS;intro w hS))|(refine Zg ?_;go_step)|fail)
  unfold pC at hP
  repeat' (first|refine Zbsm ?_|(refine Zll ?_;((first|refine G3 stp_list (by exact((hS).far hP).1) ?_ (hv:=by rfl)|refine G3 stp_list (by exact((hS).far hC).1) ?_ (hv:=by(rw[A3r];exact hv)))<;>refine F2 ?_))|(refine Zg ?_;go_step)|fail)
  go_ret2
  exact⟨rfl,hS.below⟩
 | false =>
  have h:=of_decide_eq_false hq
  have e1:cntV co i=.tuple #[.int .i64 0,.iface 48 (.int .i64 1)]:=if_neg h
  rw[e1]
  go_enter Tryz.func80,Tryz.ntmps80
  repeat' (first|refine Zasm ?_|(refine Zll ?_;(refine g_calls hS (hct _ (hS.far hP).1) ?_;clear hS;intro w hS))|(refine Zg ?_;go_step)|fail)
  go_ret2
  exact⟨rfl,hS.below⟩
end
section
variable{ar dn:Bool}{lf st:Int}{S C B N K p:Nat}{ty:TypeId}{w0:World}{Bd:Nat}{H:World->List Blk->Prop}{L:List Blk}
theorem step_on(hH:Own Bd H)(hS:H w0 ((p,pC ar lf dn st S C B N K,ty)::L))(hF:Fon ar lf dn) :
  Calls Tryz.prog 190 #[.pointer (some ⟨p,0,none⟩)] w0 fun e w'=>e=.returned .nilIface/\H w' ((p,pC ar (wrap64 (lf - 1)) dn (wrap64 (st+1)) S C B N K,ty)::L):=by
 obtain⟨rfl,rfl⟩:=hF
 unfold pC at hS |-
 go_enter Tryz.func190,Tryz.ntmps190
 repeat' (first|(refine Zll ?_;first|(refine Stp.go stp_list F1 F1 (r_subV F1 F1 F1) ?_;refine F2 ?_)|(refine Stp.go stp_list F1 F1 (r_addV F1 F1 F1) ?_;refine F2 ?_))|refine ZaHm ?_|(refine ZtHm ?_;clear hS;intro w hS)|(refine Zg ?_;go_step)|fail)
 go_ret
 exact⟨rfl,hS⟩
end
end
section
open Go.ChangeShapes Go.WideShapes Go.ChangeAt Go.RowKit
attribute [local irreducible] wpList wpListIn Oper.quietAt wpM
open Go.Maps
section
theorem zeroCel(w:World):(zeroValue 36).run Tryz.prog w=.ok (.agg (bvs (zs 128))) w:=by kernel_rfl
section
variable{rd:Rdr}{ops:Array Oper}{Q:Exit->Act->World->Prop}{o:Oper}{rest:List Oper}{a:Act}{w w0:World}{L:List Blk}
theorem s_updC{m x v:Operand}{t:TypeId}{B n:Nat}{D:DataW Unit}{k:Int}{C:List UInt8}(hrd:RdCel rd)(hS:MP.StM rd w0 B n D w L)(hg:o.guard=none)(hop:o.op=.mapUpdate t m x v)(ht:Tryz.prog.underlying t=some (.map 3 36))(hn:n<1000000)(hm:evO a m=some (.map (some B)))(hx:evO a x=some (.int .i64 k))(hv:evO a v=some (.agg (bvs C)))(hk1 : -9223372036854775808<=k/\k<=9223372036854775807)(hz:C.length=128)
  (hk:∀w',MP.StM rd w0 B (n+1) (D.put (.int .i64 k) (.lit (.string C))) w' L->wpList Tryz.prog ops Q rest (a.put o.dst undef) w'):wpList Tryz.prog ops Q (o::rest) a w:=by
 refine wpList_mapUpdate_own w hg m x v t hop 3 36 (int_keyed Tryz.underlying3) ht _ B n D (F4 hm) hS.2.1 D9 _ _ _ (F4 hx) (F4 hv) (keyOf_int_mk Tryz.underlying3 (i64_wf hk1)) _ [] (hrd.1 C hz) ?_
 intro w' h1 h2
 refine hk w' ⟨?_,h1,hS.2.2⟩
 obtain⟨hb,hl,hnd⟩:=hS.1
 have hbelow:Below w0.heap.size w0 w':=hb.trans ⟨h2.os,h2.tape,h2.output,h2.size,fun k hk=>h2.block k (A4P hk hb.size) (fun e=>by cases e;exact Nat.lt_irrefl _ (A4P hk hS.2.2))⟩
 refine⟨hbelow,fun y hy=>⟨(hl y hy).1,?_⟩,hnd⟩
 have h3:=(hl y hy).2
 have h4:y.1<w.heap.size:=G1 h3
 refine(h2.block y.1 h4 (fun e=>?_)).trans h3
 cases e
 exact(MP.map_obj hS.2.1).2 _ _ _ h3
theorem s_lookC{m x:Operand}{t:TypeId}{B n:Nat}{D:DataW Unit}{k:Int}(hrd:RdCel rd)(hS:St w0 w L)(hm0:MP.mapAt rd w B n D)(hD:MapC [] D)(hg:o.guard=none)(hop:o.op=.lookup t m x true)(ht:Tryz.prog.underlying t=some (.map 3 36))(hm:evO a m=some (.map (some B)))(hx:evO a x=some (.int .i64 k))(hk1 : -9223372036854775808<=k/\k<=9223372036854775807)
  (hk:wpList Tryz.prog ops Q rest (a.put o.dst (.tuple #[.agg (bvs (zs 128)),.bool false])) w):wpList Tryz.prog ops Q (o::rest) a w:=by
 refine wpList_lookup_own_ok w hg m x t hop 3 36 (int_keyed Tryz.underlying3) ht rd (zeroCel w) _ _ (hrd.1 (zs 128) (zs_len 128)) B n D (F4 hm) hm0 _ _ (F4 hx) (keyOf_int_mk Tryz.underlying3 (i64_wf hk1)) ?_
 intro v ps hv
 have h1:=hD.2.2 k F1
 rw[h1] at hv
 obtain⟨C,hC,rfl,he⟩:=hrd.2 _ _ hv
 simp only[Prod.mk.injEq,DataW.lit.injEq,Lit.string.injEq] at he
 rw[has_false_of_atKey h1,<-he.1]
 exact hk
end
def StR(rd:Rdr)(w0:World)(B r n:Nat)(D:DataW Unit)(left:Lit->Bool)(cnt:Nat)(w:World)(L:List Blk):Prop:=St w0 w L/\w.ranges Tryz.prog 3 rd B r n D left cnt/\w0.heap.size<=B/\w0.heap.size<=r
theorem R8{rd:Rdr}{w:World}{B r n:Nat}{D:DataW Unit}{left:Lit->Bool}{cnt:Nat}(h:w.ranges Tryz.prog 3 rd B r n D left cnt):(B<w.heap.size/\∀cs t fr,w.heap[B]?≠some (.cells cs t fr))/\(r<w.heap.size/\∀cs t fr,w.heap[r]?≠some (.cells cs t fr)):=by
 refine⟨MP.map_obj h.owns,h.lt,?_⟩
 obtain⟨es,clock,since,seen,c0,h1,h2,h3,h4,h5,h6⟩:=h
 intro cs t fr e
 rw[h5] at e;cases e
theorem own_stR{rd:Rdr}{w0:World}{B r n:Nat}{D:DataW Unit}{left:Lit->Bool}{cnt:Nat}:Own w0.heap.size (StR rd w0 B r n D left cnt) where
 blk:=fun i _ _ _ h hi=>h.1.blk i hi
 call:=fun h hb=>⟨h.1.call hb,A1S h.2.1 (hb.block B (R8 h.2.1).1.1) (hb.block r (R8 h.2.1).2.1),h.2.2⟩
 alloc:=fun cs t h=>⟨h.1.alloc cs t,A1S h.2.1 (Below.heap_alloc _ _ _ (R8 h.2.1).1.1) (Below.heap_alloc _ _ _ (R8 h.2.1).2.1),h.2.2⟩
 setRow:=fun {w} {L} i {b} {cs} {t} cs' h hi=>⟨h.1.setRow i hi cs',A1S h.2.1 (setRow_other w b B cs' (fun e=>by
  have h1:w.heap[b]?=some (.cells cs t (0,0)):=h.1.blk i hi
  exact(R8 h.2.1).1.2 _ _ _ (e ▸ h1))) (setRow_other w b r cs' (fun e=>by
  have h1:w.heap[b]?=some (.cells cs t (0,0)):=h.1.blk i hi
  exact(R8 h.2.1).2.2 _ _ _ (e ▸ h1))),h.2.2⟩
 size:=fun h=>h.1.1.size
 add:=fun h hW hg hn hb=>⟨h.1.add (A3T hW.1.1.size hg) hn hb,h.2⟩
 nodup:=fun h=>h.1.2.2
 sub:=fun h hx hn=>⟨⟨h.1.1,fun x hm=>h.1.2.1 x (hx x hm),hn⟩,h.2⟩
theorem St.turn{w0 w w':World}{L:List Blk}{b:Nat}(h:St w0 w L)(hb:w0.heap.size<=b)(hc:∀cs t fr,w.heap[b]?≠some (.cells cs t fr))(hg:w.grownBy w' (some b)):St w0 w' L:=by
 obtain⟨h1,hl,hnd⟩:=h
 refine⟨h1.trans ⟨hg.os,hg.tape,hg.output,hg.size,fun k hk=>hg.block k (A4P hk h1.size) (fun e=>by cases e;exact Nat.lt_irrefl _ (A4P hk hb))⟩,fun y hy=>⟨(hl y hy).1,?_⟩,hnd⟩
 have h3:=(hl y hy).2
 exact(hg.block y.1 (G1 h3) (fun e=>by cases e;exact hc _ _ _ h3)).trans h3
instance instVaF_1:OneT Tryz.prog 46:=⟨by kernel_rfl,by kernel_rfl⟩
theorem flush1_yes(za many i:Int)(h0:0<=za)(hi:za<=i/\i<za+many)(hm:za+many<=1000000)(b1 b2:Nat){t1 t2:TypeId}{fr1 fr2:Nat × Nat}(w0:World)(h1:blk w0 b1=some (.cells #[.int .i64 za] t1 fr1))(h2:blk w0 b2=some (.cells #[.int .i64 many] t2 fr2)) :
  Calls Tryz.prog 191 #[.int .i64 i,.pointer (some ⟨b1,0,none⟩),.pointer (some ⟨b2,0,none⟩)] w0 fun e w'=>e=.returned (.bool true)/\Below w0.heap.size w0 w':=by
 have hS:=St.start w0
 obtain⟨hi1,hi2⟩:=hi
 go_enter Tryz.func191,Tryz.ntmps191
 repeat' (first|refine Zasm ?_|(refine Zll ?_;((first|refine G3 stp_list (by exact((hS).far h1).1) ?_|refine G3 stp_list (by exact((hS).far h2).1) ?_)<;>refine F2 ?_))|(refine Zg ?_;go_step)|fail)
 go_ret
 exact⟨rfl,hS.below⟩
section
variable{Bd:Nat}{H:World->List Blk->Prop}{L:List Blk}{ar dn:Bool}{lf st:Int}{S Cc B N K p:Nat}
theorem settle1_yes(hH:Own Bd H)(su:List UInt8)(hsu:su.length=128*N)(hN:N<=2048)(i:Int)(h0:0<=i)(hi:i<(N:Int))(C:List UInt8)(hC:C.length=128)(za many:Int)(ha:0<=za)(hi2:za<=i/\i<za+many)(hm:za+many<=1000000)(bw bp b1 b2:Nat)(w0:World)
  (hS:H w0 ((bw,#[.func (.func 191) #[] #[.pointer (some ⟨b1,0,none⟩),.pointer (some ⟨b2,0,none⟩)]],46)::(bp,#[.pointer (some ⟨p,0,none⟩)],72)::(b1,#[.int .i64 za],3)::(b2,#[.int .i64 many],3)::(p,pC ar lf dn st S Cc B N K,115)::(S,bvs su,36)::L)) :
  Calls Tryz.prog 177 #[.int .i64 i,.agg (bvs C),.pointer (some ⟨bw,0,none⟩),.pointer (some ⟨bp,0,none⟩)] w0 fun e w'=>e=.returned (.bool true)/\H w' ((bw,#[.func (.func 191) #[] #[.pointer (some ⟨b1,0,none⟩),.pointer (some ⟨b2,0,none⟩)]],46)::(bp,#[.pointer (some ⟨p,0,none⟩)],72)::(b1,#[.int .i64 za],3)::(b2,#[.int .i64 many],3)::(p,pC ar lf dn st S Cc B N K,115)::(S,bvs (setC su i.toNat C),36)::L):=by
 have hf:=fun w h1 h2=>flush1_yes za many i ha hi2 hm b1 b2 (t1:=3) (t2:=3) (fr1:=(0,0)) (fr2:=(0,0)) w h1 h2
 have sC:csz (bvs C)=128:=by rw[F3,hC]
 have sS:csz (bvs su)=128*N:=by rw[F3,hsu]
 have hset:paste (bvs su) (i.toNat*128) (bvs C)=bvs (setC su i.toNat C):=by
  rw[paste_owL E9,A5w];rfl
 unfold pC at hS |-
 obtain⟨s2,hs2⟩:∃s2,setC su i.toNat C=s2:=⟨_,rfl⟩
 rw[hs2] at hset |-
 go_enter Tryz.func177,Tryz.ntmps177
 repeat' (first|refine ZaHm ?_|(refine ZkH ?_;clear hS;intro b w hS)|(refine Zll ?_;(refine g_callp stp_list hH hS (hf _ (hH.blk 3 hS rfl) (hH.blk 4 hS rfl)) ?_;clear hS;intro w hS))|(refine Zg ?_;go_step)|fail)
 refine F6 7 E7 E7 ?_
 dsimp only[List.take,List.drop]
 iterate 7 (first|refine ZQm ?_|refine ZQH ?_)
 refine Zn hH hS ?_
 clear hS
 intro pB w hS
 try dsimp only
 refine I1 stp_list hH hS ?_ (hc:=hset)
 clear hS
 intro w hS
 refine F2 ?_
 repeat' (first|refine ZaHm ?_|(refine Zll ?_;(refine g_callp stp_list hH hS (hf _ (hH.blk 3 hS rfl) (hH.blk 4 hS rfl)) ?_;clear hS;intro w hS))|(refine Zg ?_;go_step)|fail)
 go_ret
 exact⟨rfl,hH.drop hS⟩
end
end
section
theorem lastP_pre{l pre:List Pt}{a:Int}(h1:∀y∈pre,lastP l y.1=some y)(h2:∀x,lastP l a=some x->∃y∈pre,y.1=a):lastP pre a=lastP l a:=by
 cases hl:lastP l a with
 | some x =>
  obtain⟨y,hy,hya⟩:=h2 x hl
  obtain⟨z,hz⟩:=lastP_mem hy
  rw[hya] at hz
  have hzm:=K8 hz
  have:=h1 z hzm.2
  rw[hzm.1,hl] at this
  rw[hz,this]
 | none =>
  refine O5 fun y hy e=>?_
  have:=h1 y hy
  rw[e,hl] at this;cases this
theorem mapAt_none{rd:Rdr}{w:World}{B n:Nat}{D:DataW Unit}(h:MP.mapAt rd w B n D)(hh:∀k,has D k=false):MapC [] D/\MP.mapAt rd w B 0 D:=by
 have hc:=h.canon (int_keyed Tryz.underlying3)
 have e:D=.map []:=Maps.ext hc canon_empty (fun k=>by rw[hh];rfl) (fun k z hk=>by rw[hh] at hk;cases hk)
 subst e
 refine⟨mapC_nil,?_⟩
 obtain⟨es,clock,h1,h2,h3,h4⟩:=h
 refine⟨es,clock,h1,h2,?_,h4⟩
 have e1:=congrArg Maps.size h4
 have e2:Maps.size (.map []:DataW Unit)=0:=rfl
 rw[e2] at e1
 have e3:∀es:Array MapEntry,Maps.size (DataW.map ((es.toList.map (Go.WideElems.rg Tryz.prog 3 rd)).foldr DataW.insert []))=es.size:=fun es=>by simp[Maps.size,length_sorted]
 rw[e3] at e1
 omega
theorem deleteFunc_all{rd:Rdr}(hrd:RdCel rd){w00 w0:World}{B n N S Cc K p bw bp b1 b2:Nat}{D:DataW Unit}{ar dn:Bool}{lf st:Int}{L:List Blk}(l:List Pt)(hl:inP N l)(hD:MapC l D)(su:List UInt8)(hsu:su.length=128*N)(hN:N<=2048)(za many:Int)(ha:0<=za)(hi2:∀x∈l,za<=x.1/\x.1<za+many)(hm:za+many<=1000000)
  (hS:MP.StM rd w00 B n D w0 ((bw,#[.func (.func 191) #[] #[.pointer (some ⟨b1,0,none⟩),.pointer (some ⟨b2,0,none⟩)]],46)::(bp,#[.pointer (some ⟨p,0,none⟩)],72)::(b1,#[.int .i64 za],3)::(b2,#[.int .i64 many],3)::(p,pC ar lf dn st S Cc B N K,115)::(S,bvs su,36)::L)) :
  Calls Tryz.prog 176 #[.map (some B),.func (.func 177) #[] #[.pointer (some ⟨bw,0,none⟩),.pointer (some ⟨bp,0,none⟩)]] w0 fun e w'=>e=.returned (.tuple #[])/\∃D',MapC [] D'/\MP.StM rd w00 B 0 D' w' ((bw,#[.func (.func 191) #[] #[.pointer (some ⟨b1,0,none⟩),.pointer (some ⟨b2,0,none⟩)]],46)::(bp,#[.pointer (some ⟨p,0,none⟩)],72)::(b1,#[.int .i64 za],3)::(b2,#[.int .i64 many],3)::(p,pC ar lf dn st S Cc B N K,115)::(S,bvs (applyP su l),36)::L):=by
 obtain⟨PC,hPC⟩:∃x,pC ar lf dn st S Cc B N K=x:=⟨_,rfl⟩
 go_enter Tryz.func176,Tryz.ntmps176
 refine ZdNm ?_;intro _ _ _
 refine wpList_range_own _ F1 _ 111 F1 3 36 (int_keyed Tryz.underlying3) Tryz.underlying111 rd B n D F1 hS.2.1 ?_
 intro w1 hrg hg1 hs1
 refine F2 ?_
 have hR:StR rd w00 B w0.heap.size n D (has D) (Maps.size D) w1 _:=⟨hS.1.call ⟨hg1.os,hg1.tape,hg1.output,hg1.size,fun k hk=>hg1.block k hk F0⟩,hrg,hS.2.2,hS.1.1.size⟩
 clear hS hrg hg1 hs1
 obtain⟨r,hr⟩:∃r,w0.heap.size=r:=⟨_,rfl⟩
 rw[hr] at hR |-
 clear hr
 refine ZdNm ?_;show _
 go_loopw [4] (fun _ wr=>∃(left:Lit->Bool)(cnt:Nat)(D':DataW Unit)(pre:List Pt),StR rd w00 B r n D' left cnt wr ((bw,#[.func (.func 191) #[] #[.pointer (some ⟨b1,0,none⟩),.pointer (some ⟨b2,0,none⟩)]],46)::(bp,#[.pointer (some ⟨p,0,none⟩)],72)::(b1,#[.int .i64 za],3)::(b2,#[.int .i64 many],3)::(p,pC ar lf dn st S Cc B N K,115)::(S,bvs (applyP su pre),36)::L)/\(∀kl,has D' kl=left kl)/\(∀kl z,left kl=true->D'.atKey kl z=D.atKey kl z)/\(∀a:Int,left (.int .i64 a)=(has D (.int .i64 a) && !(pre.any fun y=>y.1 == a)))/\(∀y∈pre,lastP l y.1=some y)/\inP N pre)
  (fun _ wr=>wr.rangeLeft B r)
 case atStart=>exact⟨_,_,D,[],hR,fun _=>rfl,fun _ _ _=>rfl,fun a=>by simp,by simp,by intro x hx;cases hx⟩
 case round =>
  clear hR
  obtain⟨left,cnt,D',pre,hS,hhas,hatk,hleft,hpre,hin⟩:=hrel
  refine ZdJm ?_;intro _ _ _
  refine wpList_next_ranges _ F1 _ F1 3 (int_keyed Tryz.underlying3) rd (Value.int .i64) Value.agg (fun key kl hk=>by
   obtain⟨x,hx,_⟩:=Maps.keyOf_int_inv Tryz.underlying3 hk
   exact⟨x,hx⟩) (fun v y hv=>by
   obtain⟨C,_,rfl,_⟩:=hrd.2 v y hv
   exact⟨_,rfl⟩) B r n _ _ _ F1 hS.2.1 ?_ ?_
  ·intro hc0 hl0
   refine F2 ?_
   refine ZdJm ?_;intro _ _
   go_end0
   have hno:∀k,has D' k=false:=fun k=>by rw[hhas,hl0]
   obtain⟨h1,h2⟩:=mapAt_none hS.2.1.owns hno
   have he:applyP su pre=applyP su l:=by
    refine cells_ext (Z8 hsu hin) (Z8 hsu hl) fun i hi=>?_
    rw[A0p hsu hin hi,A0p hsu hl hi,lastP_pre hpre]
    intro x hx
    have h3:=hleft (i:Int)
    rw[hl0,(mapC_has hD (i:Int)).2 ⟨x,hx⟩,Bool.true_and] at h3
    have h4:(pre.any fun y=>y.1 == (i:Int))=true:=by
     cases hq:(pre.any fun y=>y.1 == (i:Int)) with
     | true=>rfl
     | false=>rw[hq] at h3;cases h3
    obtain⟨y,hy,hye⟩:=A5H.1 h4
    exact⟨y,hy,by simpa using hye⟩
   rw[he] at hS
   exact⟨rfl,D',h1,hS.1,h2,hS.2.2.1⟩
  ·intro a cs kl yd w2 cnt2 hkey hlk hv hat hrg2 hlt hg2 hs2 hen
   obtain⟨a',e1,rfl,_⟩:=Maps.keyOf_int_inv Tryz.underlying3 hkey
   cases e1
   obtain⟨C,hC,hvx,rfl⟩:=hrd.2 _ _ hv
   cases hvx
   have hDa:=hatk _ (.lit (.int .i64 0)) hlk
   rw[hat] at hDa
   obtain⟨x,hlx⟩:∃x,lastP l a=some x:=by
    cases hq:lastP l a with
    | some x=>exact⟨x,rfl⟩
    | none =>
     rw[hD.2.2 a hq] at hDa
     cases hDa
   have hxa:=(K8 hlx).1
   have hxm:=(K8 hlx).2
   have hxC:x.2=C:=by
    rw[hD.2.1 a x hlx] at hDa
    simpa using hDa.symm
   obtain⟨i0,i1,i2⟩:=hl x hxm
   have hi2x:=hi2 x hxm
   rw[hxa] at i0 i1 hi2x
   have hsp:=Z8 hsu hin
   have hS1:=hS.1.turn hS.2.2.2 (R8 hS.2.1).2.2 hg2
   have hme:=hS.2.1.left_eq
   have hBr:w00.heap.size<=B/\w00.heap.size<=r:=hS.2.2
   clear hS
   have hS:StR rd w00 B r n D' _ cnt2 w2 _:=⟨hS1,hrg2,hBr⟩
   clear hS1 hrg2
   have sC:csz (bvs C)=128:=by rw[F3,hC]
   have sZ:csz (bvs (zs 128))=128:=by rw[F3,zs_len]
   refine F2 ?_
   repeat' (first|refine ZaJm ?_|(refine ZkJ ?_;clear hS;intro b w hS)|(refine ZtJm ?_;clear hS;intro w hS)|(refine Zll ?_;(refine Stp.go stp_list F1 F1 (r_entry F1 F1 hen) ?_;refine F2 ?_))|(refine Zg ?_;go_step)|fail)
   replace hS:=own_stR.mid (F:=[_,_,_,_,_,_]) hS
   refine F7 stp_list F1 F1 F1 F1 F1 E5 (settle1_yes own_stR _ hsp hN a i0 i1 C hC za many ha hi2x hm _ _ _ _ _ hS) ?_
   clear hS
   rintro e w3 ⟨rfl,hS⟩
   refine⟨_,rfl,?_⟩
   refine F2 ?_
   refine ZdJm ?_;show _
   refine wpList_delete_ranges _ F1 _ _ 111 3 F1 36 (int_keyed Tryz.underlying3) Tryz.underlying111 rd B r n _ _ _ F1 hS.2.1 _ _ F1 hkey ?_
   intro w4 cnt4 hrg4 hle hturn
   rw[strike_twice] at hrg4
   have hS1:=hS.1.turn hBr.1 (R8 hS.2.1).1.2 hturn.grown
   have hsn:setC (applyP su pre) a.toNat C=applyP su (pre++[x]):=by rw[applyP_snoc,hxa,hxC]
   rw[hsn] at hS1
   clear hS
   have hS:StR rd w00 B r n _ _ cnt4 w4 _:=⟨hS1,hrg4,hBr⟩
   clear hS1
   refine F2 ?_
   replace hS:=own_stR.erase 6 hS
   simp only[A4c,A4b] at hS
   refine ZdJm ?_;show _
   go_roundw
   case rel =>
    refine⟨_,cnt4,_,pre++[x],hS,fun k=>?_,fun k z hk=>?_,fun b=>?_,fun y hy=>?_,inP_snoc.2 ⟨hin,by rw[hxa,hxC];exact⟨i0,i1,hC⟩⟩⟩
    ·by_cases hk:k=.int .i64 a
     ·subst hk
      rw[has_del_same]
      simp[Lit.sameKey]
     ·rw[has_del_other hk,hhas,sameKey_ne hk];simp
    ·have hk2:k≠.int .i64 a:=fun e=>by subst e;simp[Lit.sameKey] at hk
     rw[sameKey_ne hk2] at hk
     rw[atKey_del_other hk2]
     exact hatk k z (by simpa using hk)
    ·rw[hleft b,List.any_append]
     by_cases he:x.1=b
     ·subst he;simp[Lit.sameKey,hxa]
     ·have h6:(Lit.int .i64 b).sameKey (.int .i64 a)=false:=sameKey_ne (fun e=>he (by cases e;exact hxa))
      have h7:(x.1 == b)=false:=by simpa using he
      simp[h6,h7]
    ·rcases A3Y.1 hy with hy|hy
     ·exact hpre y hy
     ·simp at hy;subst hy;rw[hxa];exact hlx
   case measure=>rw[hrg4.left_eq,hme];omega
end
end
end Go.Proofs.YtlfbfbbdpcihfaaGreat
