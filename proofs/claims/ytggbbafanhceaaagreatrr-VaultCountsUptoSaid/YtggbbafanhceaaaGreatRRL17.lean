/-
  Laws that the claims of this seat use, of several texts in one. No condition of their own.
-/
import Derived.Test.YtggbbafanhceaaaGreatRRL16
set_option maxRecDepth 100000
set_option maxHeartbeats 8000000
set_option linter.all false
namespace Go.Proofs.YtggbbafanhceaaaGreatRR
section
open Go.ChangeShapes Go.WideShapes Go.ChangeAt Go.RowKit
attribute [local irreducible] wpList wpListIn Oper.quietAt wpM
section
def cellN(l:List UInt8):List UInt8:=(List.range 128).map fun i=>if l=[] then 0 else l.getD (i % l.length) 0
theorem cellN_len(l:List UInt8):(cellN l).length=128:=by unfold cellN;rw[A4z,A6l]
theorem cellN_get(l:List UInt8)(h:l≠[]){k:Nat}(hk:k<128):(cellN l).getD k 0=l.getD (k % l.length) 0:=by
 unfold cellN
 rw[A4R,A4U,A6D hk]
 simp[h]
theorem cellN_nil:cellN []=zs 128:=by
 unfold cellN zs
 apply A5X
 intro i
 rw[A4U]
 by_cases hi:i<128
 ·rw[A6D hi,List.getElem?_replicate,if_pos hi];rfl
 ·rw[A5v (by rw[A6l];omega),List.getElem?_replicate,if_neg hi];rfl
attribute [local irreducible] cellN
theorem cellN_any(l:List UInt8)(v:Value)(w0:World)(hv:BytesAt w0 v l) :
  Calls Tryz.prog 29 #[v] w0 fun e w'=>e=.returned (.agg (bvs (cellN l)))∧Below w0.heap.size w0 w':=by
 obtain⟨p,c,rfl,hc⟩:=hv.slice
 have hS:=St.start w0
 have sZ:csz (bvs (zs 128))=128:=by rw[I2,zs_len]
 have lD:=cellN_len l
 have hDg:=cellN_get l
 have hD0:l=[]→cellN l=zs 128:=fun h=>by rw[h,cellN_nil]
 obtain⟨D,hD⟩:∃D,cellN l=D:=⟨_,rfl⟩
 rw[hD] at lD hDg hD0 ⊢
 have e128:zs (128 - 0)=zs 128:=rfl
 obtain⟨q,hq⟩:∃q,l.length=q:=⟨_,rfl⟩
 rw[hq] at hc hDg ⊢
 go_enter Tryz.func29,Tryz.ntmps29
 by_cases h0:q=0
 ·obtain rfl:=hD0 (List.length_eq_zero_iff.1 H6)
  subst h0
  refine Zdsm ?_;clear hS;intro _ b w b w w hS _ _
  rename_i bR y0 y1 KK hKK
  go_loopw [4,6] (fun u4 u6 wr=>∃k:Nat,k≤128∧u6=.int .i64 (k:Int)∧St w0 wr [(b,bvs (zs 128),39),(bR,bvs (zs 128),39)]) (fun _ u6 _=>128 - (intOf u6).toNat)
  case atStart=>exact⟨0,by omega,rfl,hS⟩
  case round =>
   clear hS
   obtain⟨k,hk,rfl,hS⟩:=hrel
   by_cases hlt:k<128
   ·refine Zdsm ?_;show _
    go_roundw
    case rel=>exact⟨k+1,by omega,by push_cast;rfl,hS⟩
    case measure=>first|(simp[intOf];done)|(simp[intOf];omega)
   ·obtain rfl:k=128:=by omega
    repeat' (first|refine Zasm ?_|(refine Zks ?_;clear hS;intro b w hS)|(refine Ztsm ?_;clear hS;intro w hS)|(refine Zc ?_ ?_<;>intro hc)|(refine Zg ?_;first|go_step|go_step3|refine Zr ?_)|fail)
    exact J6 (n:=128) Tryz.results29 G8 (.inl rfl) _ _ _ _ rfl rfl (hS.blk 1 rfl) (by rw[←K3];exact sZ) ⟨rfl,hS.below⟩
 ·have hne:l≠[]:=fun e=>h0 (by rw[←hq,e];rfl)
  obtain⟨tb,o,rfl,_⟩:=hv.cell (A4y (i:=0) H6)
  obtain⟨tcs,tty,tfr,htb,hcell⟩:=bytes_blk hv H6
  refine Zdsm ?_;clear hS;intro _ b w b w w hS _ _
  rename_i bR y0 y1 KK hKK
  go_loopw [4,6] (fun u4 u6 wr=>∃k:Nat,k≤128∧u6=.int .i64 (k:Int)∧St w0 wr [(b,bvs (D.take k++zs (128 - k)),39),(bR,bvs (zs 128),39)]) (fun _ u6 _=>128 - (intOf u6).toNat)
  case atStart=>exact⟨0,by omega,rfl,hS⟩
  case round =>
   clear hS
   obtain⟨k,hk,rfl,hS⟩:=hrel
   have s0:(D.take k++zs (128 - k)).length=128:=by rw[A4p,A4u,zs_len];omega
   by_cases hlt:k<128
   ·have hm:k % q<q:=Nat.mod_lt _ H6
    have hck:=hcell (k % q) H6
    rw[←hDg hne hlt] at hck
    have hset:=bvs_fill (l:=D) (i:=k) (n:=128) H6 lD
    have hrm:(k:Int) % (q:Int)=((k % q:Nat):Int):=(Int.natCast_emod k q).symm
    obtain⟨y,hy⟩:∃y,D.getD k 0=y:=⟨_,rfl⟩
    rw[hy] at hck hset
    obtain⟨j,hj⟩:∃j,k % q=j:=⟨_,rfl⟩
    rw[hj] at hm hck hrm
    obtain⟨X,hX⟩:∃X,D.take k++zs (128 - k)=X:=⟨_,rfl⟩
    obtain⟨Y,hY⟩:∃Y,D.take (k+1)++zs (128 - (k+1))=Y:=⟨_,rfl⟩
    rw[hX] at hS s0 hset
    rw[hY] at hset
    repeat' (first|((with_reducible refine cons_list ?_);first|(refine Stp.go H9 H8 H8 (r_rem H8 H8 H8 H6 hrm) ?_;refine I1 ?_))|refine Zbsm ?_|((with_reducible refine cons_list ?_);first|((first|refine J4 H9 own_st hS ?_ (hv:=by rw[A4o];exact hck)|refine I7 H9 (by first|exact((hS).far htb).1) ?_ (hv:=by first|rfl|exact bvs_getLA|(rw[A4o];exact hck))|refine J3 H9 own_st hS ?_ (hv:=by first|(exact hck)|rfl)|refine I8 H9 (by first|exact((hS).far htb).1) ?_ (hv:=by first|exact I6 _ _ A8|(exact hck)|rfl)|refine J1 H9 ?_ (hv':=by first|exact bvs_getLA|(rw[A4o];exact hck)))<;>refine I1 ?_))|(refine Zks ?_;clear hS;intro b w hS)|(refine Ztsm ?_;clear hS;intro w hS)|(refine Zc ?_ ?_<;>intro hc)|(refine Zg ?_;first|go_step|go_step3|refine Zr ?_)|fail)
    rw[hset] at hS
    go_roundw
    case rel=>exact⟨k+1,by omega,by push_cast;rfl,by rw[hY];exact hS⟩
    case measure=>first|(simp[intOf];done)|(simp[intOf];omega)
   ·obtain rfl:k=128:=by omega
    have hD2:D.take 128++zs (128 - 128)=D:=by rw[A4B H6,A6E,A6e (zs_len 0),A4S]
    rw[hD2] at hS
    have s1:csz (bvs D)=128:=by rw[I2,lD]
    repeat' (first|refine Zasm ?_|(refine Zks ?_;clear hS;intro b w hS)|(refine Ztsm ?_;clear hS;intro w hS)|(refine Zc ?_ ?_<;>intro hc)|(refine Zg ?_;first|go_step|go_step3|refine Zr ?_)|fail)
    exact J6 (n:=128) Tryz.results29 G8 (.inl rfl) _ _ _ _ rfl rfl (hS.blk 1 rfl) (by rw[←K3];exact s1) ⟨rfl,hS.below⟩
end
section
attribute [local irreducible] tagL
end
section
def CellsAt(w:World)(v:Value)(X:List UInt8)(k:Nat):Prop:=X.length=128*k∧∃p c,v=.slice p k c∧k≤c∧(p=none→c=0)∧(0<k→∃b o cs t fr,p=some ⟨b,o,none⟩∧blk w b=some (.cells cs t fr)∧∀j x,X[j]?=some x→cs[o+j]?=some (bv x))
theorem CellsAt.below{w w':World}{v:Value}{X:List UInt8}{k:Nat}(h:CellsAt w v X k)(hb:Below w.heap.size w w'):CellsAt w' v X k:=by
 obtain⟨h0,p,c,h1,h2,h3,h4⟩:=h
 refine⟨h0,p,c,h1,h2,h3,fun hne=>?_⟩
 obtain⟨b,o,cs,t,fr,h5,h6,h7⟩:=h4 hne
 exact⟨b,o,cs,t,fr,h5,(hb.block b (J5 h6)).trans h6,h7⟩
theorem CellsAt.nil(w:World):CellsAt w (.slice none 0 0) [] 0:=⟨rfl,none,0,rfl,A4C _,fun _=>rfl,fun h=>absurd h H6⟩
def celX(X:List UInt8)(i:Nat):List UInt8:=(X.drop (128*i)).take 128
theorem celX_len{X:List UInt8}{i k:Nat}(h:X.length=128*k)(hi:i<k):(celX X i).length=128:=by unfold celX;rw[A4u,A4J];omega
theorem celX_next(X:List UInt8)(i:Nat):X.take (128*(i+1))=X.take (128*i)++celX X i:=by
 unfold celX;rw[show 128*(i+1)=128*i+128 by omega,A6K]
theorem celX_cut{cs:Array Value}{o i k:Nat}{X:List UInt8}(h:X.length=128*k)(hi:i<k)(hc:∀j x,X[j]?=some x→cs[o+j]?=some (bv x)):o+i*128+128≤csz cs∧cut cs (o+i*128) 128=bvs (celX X i)∧∀j,j<128→cs[o+i*128+j]?=some (.int .u8 (((celX X i).getD j 0).toNat:Int)):=by
 have hat:∀j x,(celX X i)[j]?=some x→cs[o+i*128+j]?=some (bv x):=fun j x hj=>by
  have hjl:=(A4v.1 hj).1
  rw[celX_len h hi] at hjl
  unfold celX at hj
  rw[A5h,if_pos hjl,A5G] at hj
  have:=hc _ _ hj
  rw[show o+i*128+j=o+(128*i+j) by omega]
  exact this
 obtain⟨h1,h2⟩:=cut_of_cells (celX_len h hi) H6 hat
 refine⟨h1,h2,fun j hj=>?_⟩
 have hl:=celX_len h hi
 rw[hat j ((celX X i)[j]'H6) (A4y H6),A4R,A4y H6]
 rfl
end
end
section
open Go.ChangeShapes Go.WideShapes Go.ChangeAt Go.RowKit
def owL(M:List UInt8)(o:Nat)(l:List UInt8):List UInt8:=M.take o++(l++M.drop (o+l.length))
def sl(M:List UInt8)(o n:Nat):List UInt8:=(M.drop o).take n
theorem sl_len{M:List UInt8}{o n:Nat}(h:o+n≤M.length):(sl M o n).length=n:=by unfold sl;rw[A4u,A4J];omega
theorem N5{M l:List UInt8}{o:Nat}(h:o+l.length≤M.length):(owL M o l).length=M.length:=by
 unfold owL;rw[A4p,A4p,A4u,A4J];omega
theorem owL_at{M l:List UInt8}{o:Nat}(h:o+l.length≤M.length)(k:Nat):(owL M o l)[k]?=if o≤k∧k<o+l.length then l[k - o]? else M[k]?:=by
 unfold owL
 by_cases h1:k<o
 ·rw[A4M E8,A5h,if_pos h1,if_neg H6]
 ·rw[A4Q E8,A4u,A6b H6]
  by_cases h2:k<o+l.length
  ·rw[A4M H6,if_pos H6]
  ·rw[A4Q H6,if_neg H6,A5G]
   congr 1;omega
theorem A1v(M:List UInt8)(o n k:Nat):(sl M o n)[k]?=if k<n then M[o+k]? else none:=by
 unfold sl
 by_cases h:k<n
 ·rw[if_pos h,A5h,if_pos h,A5G]
 ·rw[if_neg h]
  exact A5v E8
theorem A1o{M l:List UInt8}{o n:Nat}(hl:l.length=n)(h:o+n≤M.length):sl (owL M o l) o n=l:=by
 apply A5X
 intro k
 rw[A1v,owL_at H6]
 by_cases hk:k<n
 ·rw[if_pos hk,if_pos H6]
  congr 1;omega
 ·rw[if_neg hk,A5v H6]
theorem P3{M l:List UInt8}{o p n:Nat}(h:o+l.length≤M.length)(hd:p+n≤o∨o+l.length≤p):sl (owL M o l) p n=sl M p n:=by
 apply A5X
 intro k
 rw[A1v,A1v]
 by_cases hk:k<n
 ·rw[if_pos hk,if_pos hk,owL_at h,if_neg H6]
 ·rw[if_neg hk,if_neg hk]
theorem Z1{M:List UInt8}{o n p m:Nat}(h:p+m≤n):sl (sl M o n) p m=sl M (o+p) m:=by
 unfold sl
 rw[List.drop_take,List.take_take,A5W,A6b H6]
theorem sl_all{M:List UInt8}{n:Nat}(h:M.length=n):sl M 0 n=M:=by unfold sl;rw[A5V,A4B H6]
theorem P9(X:List UInt8)(i:Nat):celX X i=sl X (128*i) 128:=rfl
def setC(s:List UInt8)(i:Nat)(C:List UInt8):List UInt8:=owL s (128*i) C
theorem setC_len{s C:List UInt8}{i N:Nat}(hs:s.length=128*N)(hi:i<N)(hC:C.length=128):(setC s i C).length=128*N:=by unfold setC;rw[N5 H6,hs]
theorem celX_setC{s C:List UInt8}{i j N:Nat}(hs:s.length=128*N)(hi:i<N)(hC:C.length=128):celX (setC s i C) j=if j=i then C else celX s j:=by
 unfold setC
 rw[P9,P9]
 by_cases h:j=i
 ·subst h;rw[if_pos rfl];exact A1o hC H6
 ·rw[if_neg h];exact P3 H6 H6
theorem A2U{s t:List UInt8}{N:Nat}(hs:s.length=128*N)(ht:t.length=128*N)(h:∀i,i<N→celX s i=celX t i):s=t:=by
 apply A5X
 intro k
 by_cases hk:k<128*N
 ·have h1:=congrArg (·[k % 128]?) (h (k / 128) H6)
  simp only[P9,A1v] at h1
  rw[if_pos H6,if_pos H6,show 128*(k / 128)+k % 128=k by omega] at h1
  exact h1
 ·rw[A5v H6,A5v H6]
def inP(N:Nat)(l:List Pt):Prop:=∀x∈l,0≤x.1∧x.1<(N:Int)∧x.2.length=128
def applyP(s:List UInt8)(l:List Pt):List UInt8:=l.foldl (fun s x=>setC s x.1.toNat x.2) s
theorem applyP_snoc(s:List UInt8)(l:List Pt)(x:Pt):applyP s (l++[x])=setC (applyP s l) x.1.toNat x.2:=by unfold applyP;rw[List.foldl_append];rfl
theorem inP_snoc{N:Nat}{l:List Pt}{x:Pt}:inP N (l++[x])↔inP N l∧(0≤x.1∧x.1<(N:Int)∧x.2.length=128):=by
 unfold inP
 constructor
 ·exact fun h=>⟨fun y hy=>h y (A5R _ hy),h x H7⟩
 ·rintro⟨h1,h2⟩ y hy
  rcases A5c.1 hy with hy|hy
  ·exact h1 y hy
  ·rw[A5w] at hy;subst hy;exact h2
theorem rev_ind{α:Type}{p:List α→Prop}(h0:p [])(h1:∀l x,p l→p (l++[x])):∀l,p l:=by
 intro l
 have:∀r:List α,p r.reverse:=by
  intro r
  induction r with
  | nil=>exact h0
  | cons x r ih=>rw[List.reverse_cons];exact h1 _ _ ih
 have h:=this l.reverse
 rwa [List.reverse_reverse] at h
theorem applyP_all{s:List UInt8}{N:Nat}(hs:s.length=128*N)(l:List Pt):inP N l→(applyP s l).length=128*N∧∀i:Nat,i<N→celX (applyP s l) i=((lastP l (i:Int)).map (·.2)).getD (celX s i):=by
 refine rev_ind (p:=fun l=>inP N l→(applyP s l).length=128*N∧∀i:Nat,i<N→celX (applyP s l) i=((lastP l (i:Int)).map (·.2)).getD (celX s i)) (fun _=>⟨hs,fun i _=>rfl⟩) (fun l x ih hin=>?_) l
 obtain⟨h1,h2,h3,h4⟩:=inP_snoc.1 hin
 obtain⟨k1,k2⟩:=ih h1
 rw[applyP_snoc]
 refine⟨setC_len k1 H6 h4,fun i hi=>?_⟩
 rw[celX_setC k1 H6 h4,N7]
 by_cases he:x.1=(i:Int)
 ·rw[if_pos H6,if_pos he];rfl
 ·rw[if_neg H6,if_neg he];exact k2 i hi
theorem Y1{s:List UInt8}{N:Nat}(hs:s.length=128*N){l:List Pt}(h:inP N l):(applyP s l).length=128*N:=(applyP_all hs l h).1
theorem A0q{s:List UInt8}{N:Nat}(hs:s.length=128*N){l:List Pt}(h:inP N l){i:Nat}(hi:i<N):celX (applyP s l) i=((lastP l (i:Int)).map (·.2)).getD (celX s i):=(applyP_all hs l h).2 i hi
def shiftP(b:Int)(l:List Pt):List Pt:=l.map fun x=>(b+x.1,x.2)
theorem shiftP_len(b:Int)(l:List Pt):(shiftP b l).length=l.length:=by unfold shiftP;rw[A4z]
theorem lastP_shift(b a:Int)(l:List Pt):lastP (shiftP b l) (b+a)=(lastP l a).map fun x=>(b+x.1,x.2):=by
 refine rev_ind (p:=fun l=>lastP (shiftP b l) (b+a)=(lastP l a).map fun x=>(b+x.1,x.2)) rfl (fun l x ih=>?_) l
 have e:shiftP b (l++[x])=shiftP b l++[(b+x.1,x.2)]:=by unfold shiftP;rw[A4N];rfl
 rw[e,N7,N7,ih]
 dsimp only
 by_cases h:x.1=a
 ·rw[if_pos h,if_pos H6];rfl
 ·rw[if_neg h,if_neg H6]
theorem Q5{l:List Pt}{a:Int}(h:∀x∈l,x.1≠a):lastP l a=none:=by
 cases hl:lastP l a with
 | none=>rfl
 | some x=>exact absurd (O1 hl).1 (h x (O1 hl).2)
theorem lastP_merge{l R:List Pt}(h:IsMerge l R)(a:Int):lastP R a=lastP l a:=by
 cases hl:lastP l a with
 | some x =>
  have hx:=(O1 hl).1
  have hR:x∈R:=(h.2 x).2 (by rw[hx];exact hl)
  cases hr:lastP R a with
  | none =>
   obtain⟨y,hy⟩:=lastP_mem hR
   rw[hx,hr] at hy;cases hy
  | some y =>
   have hy:=O1 hr
   have h2:=(h.2 y).1 hy.2
   rw[hy.1,hl] at h2
   exact h2.symm
 | none =>
  refine Q5 fun y hy e=>?_
  have h2:=(h.2 y).1 hy
  rw[e,hl] at h2;cases h2
end
section
open Go.ChangeShapes Go.WideShapes Go.ChangeAt Go.RowKit
attribute [local irreducible] wpList wpListIn Oper.quietAt wpM
section
def numR(C:List UInt8)(o:Nat):Nat:=beN ((C.drop o).take 2)
def cntR(C:List UInt8):Int:=wrap64 (beN (C.take 8):Int)
theorem beN_two(l:List UInt8)(h:l.length≤2):beN l<65536:=by
 have h1:=beN_lt l
 have h2:256 ^ l.length≤256 ^ 2:=Nat.pow_le_pow_right H6 h
 have h3:(256:Nat) ^ 2=65536:=by decide +kernel
 rw[h3] at h2
 exact A6f h1 h2
theorem numR_lt(C:List UInt8)(o:Nat):numR C o<65536:=beN_two _ E8
theorem r_convR{P:Program}{o:Oper}{a:Act}{w:World}{s t:TypeId}{x:Operand}{k ks:IntKind}{n q:Int}(hop:o.op=.convert s t x)(hx:evO a x=some (.int k n))(hs:IntT P s ks)(ht:IntT P t .i64)(hq:wrap64 n=q):(execOp a.eval o).run P w=.ok (.value (.int .i64 q)) w:=by
 subst hq
 unfold execOp;rw[hop]
 simp only[I3 hx,convert,Sem.run_bind,run_underlying hs.is,run_underlying ht.is,Result.andThen_ok,Conv.intToInt]
 rw[show IntKind.i64.wrap n=wrap64 n by rw[IntKind.wrap_i64];unfold wrap64;omega]
 rfl
theorem big_quiet(v:Value)(l:List UInt8)(w:World)(hv:BytesAt w v l)(hl:l.length≤8):Calls Tryz.prog 112 #[v] w fun e w'=>e=.returned (.int .u64 (beN l))∧Below w.heap.size w w' :=
 (A3a v l w hv hl).mono (fun _ _ h=>⟨h.1,h.2 ▸ Below.refl _ _⟩)
theorem number_any(C:List UInt8)(hC:C.length=128)(o:Nat)(ho:o≤126)(w0:World) :
  Calls Tryz.prog 153 #[.agg (bvs C),.int .i64 (o:Int)] w0 fun e w'=>e=.returned (.int .i64 (numR C o:Int))∧Below w0.heap.size w0 w':=by
 have hS:=St.start w0
 have sC:csz (bvs C)=128:=by rw[I2,hC]
 have hlt:=numR_lt C o
 have hN:beN ((C.drop o).take 2)=numR C o:=rfl
 have l2:((C.drop o).take 2).length=2:=by rw[A4u,A4J];omega
 have hbg:=fun w b (hv:BytesAt w (.slice (some ⟨b,o,none⟩) 2 (128 - o)) ((C.drop o).take 2))=>big_quiet _ ((C.drop o).take 2) w hv H6
 obtain⟨N,hN2⟩:∃N,numR C o=N:=⟨_,rfl⟩
 rw[hN] at hbg
 rw[hN2] at hbg hlt ⊢
 go_enter Tryz.func153,Tryz.ntmps153
 refine Zdsm ?_;clear hS;intro _ b w hS _ _
 rw[show ((o:Int)+2).toNat - o=2 by omega]
 repeat' (first|refine Zasm ?_|(refine Zks ?_;clear hS;intro b w hS)|(refine Ztsm ?_;clear hS;intro w hS)|(refine Zc ?_ ?_<;>intro hc)|((with_reducible refine cons_list ?_);first|(refine J0 H9 own_st hS (hbg _ _ (T4 (hS.blk 0 rfl) H6 H6)) ?_;clear hS;intro w hS;refine I1 ?_)|(refine Stp.go H9 H8 H8 (r_convR H8 H8 G2 G2 (wrap_small2 hlt)) ?_;refine I1 ?_))|(refine Zg ?_;first|go_step|go_step3|refine Zr ?_)|fail)
 go_ret
 exact⟨rfl,hS.below⟩
end
section
def OwL{α:Type}(f:α→List Value)(sz:Nat)(t:TypeId)(l:List α)(v:Value)(Lr:List Blk):Prop:=(v=.slice none 0 0∧l=[]∧Lr=[]) ∨
 ∃g c sp,v=.slice (some ⟨g,0,none⟩) l.length c∧l.length≤c∧c≤maxLen∧sp.length=(c - l.length)*sz∧Lr=[(g,(l.flatMap f++sp).toArray,t)]
def OwnL{α:Type}(f:α→List Value)(sz:Nat)(t:TypeId)(B:Nat)(w:World)(v:Value)(l:List α):Prop:=(v=.slice none 0 0∧l=[]) ∨
 ∃g c sp,v=.slice (some ⟨g,0,none⟩) l.length c∧l.length≤c∧c≤maxLen∧sp.length=(c - l.length)*sz∧B≤g∧blk w g=some (.cells (l.flatMap f++sp).toArray t (0,0))
def OwAt{α:Type}(f:α→List Value)(w:World)(v:Value)(l:List α):Prop:=∃p c,v=.slice p l.length c∧l.length≤c∧(p=none→c=0)∧(l≠[]→∃b o cs t fr,p=some ⟨b,o,none⟩∧blk w b=some (.cells cs t fr)∧∀j x,(l.flatMap f)[j]?=some x→cs[o+j]?=some x)
section
variable{α:Type}{f:α→List Value}{sz:Nat}{t:TypeId}{l:List α}{v:Value}{Lr:List Blk}
theorem OwL.slice(h:OwL f sz t l v Lr):∃p c,v=.slice p l.length c:=by
 rcases h with⟨rfl,rfl,_⟩|⟨g,c,sp,rfl,_⟩
 ·exact⟨_,_,rfl⟩
 ·exact⟨_,_,rfl⟩
theorem OwnL.slice{B:Nat}{w:World}(h:OwnL f sz t B w v l):∃p c,v=.slice p l.length c:=by
 rcases h with⟨rfl,rfl⟩|⟨g,c,sp,rfl,_⟩
 ·exact⟨_,_,rfl⟩
 ·exact⟨_,_,rfl⟩
theorem OwL.own{w0 w:World}{L:List Blk}(h:OwL f sz t l v Lr)(hS:St w0 w L)(hm:∀x∈Lr,x∈L):OwnL f sz t w0.heap.size w v l:=by
 rcases h with⟨rfl,rfl,rfl⟩|⟨g,c,sp,rfl,h1,h2,h3,rfl⟩
 ·exact .inl ⟨rfl,rfl⟩
 ·have:=hS.2.1 _ (hm _ (A4t ..))
  exact .inr ⟨g,c,sp,rfl,h1,h2,h3,this.1,this.2⟩
theorem OwAt.nil(w:World):OwAt f w (.slice none 0 0) []:=⟨none,0,rfl,A4C _,fun _=>rfl,fun h=>absurd rfl h⟩
theorem OwAt.blk{w:World}{g c n:Nat}{sp:List Value}{t:TypeId}{fr:Nat × Nat}(hn:n=l.length)(hc:n≤c)(hb:blk w g=some (.cells (l.flatMap f++sp).toArray t fr)):OwAt f w (.slice (some ⟨g,0,none⟩) n c) l:=by
 subst hn
 exact⟨_,c,rfl,hc,(fun h=>by cases h),fun _=>⟨g,0,_,t,fr,rfl,hb,fun j x hj=>by
  rw[A4D,A4w,A4M (A4v.1 hj).1,hj]⟩⟩
theorem OwL.at{B:Nat}{H:World→List Blk→Prop}(hH:Own B H){w:World}{L:List Blk}(h:OwL f sz t l v Lr)(hS:H w L)(hm:∀x∈Lr,x∈L):OwAt f w v l:=by
 rcases h with⟨rfl,rfl,rfl⟩|⟨g,c,sp,rfl,h1,h2,h3,rfl⟩
 ·exact OwAt.nil w
 ·obtain⟨i,hi⟩:=List.getElem?_of_mem (hm _ (A4t ..))
  exact OwAt.blk rfl h1 (hH.blk i hS hi)
theorem owl_len(hf:∀a∈l,(f a).length=sz):(l.flatMap f).length=l.length*sz:=by
 induction l with
 | nil=>simp
 | cons a l ih =>
  rw[A5n,A4p,hf a (A4t ..),ih (fun b hb=>hf b (A4A _ hb)),A4G,Nat.add_mul]
  omega
theorem owl_snoc(l:List α)(x:α):(l++[x]).flatMap f=l.flatMap f++f x:=by rw[List.flatMap_append,List.flatMap_singleton]
end
theorem A2w{α:Type}{f:α→List Value}{sz bytes:Nat}{t e:TypeId}{l:List α}{x0:α}{sv:Value}{Lr L:List Blk}{nb:Nat}{x y:Operand}{P:Program}{ops:Array Oper}{W:List Oper→Act→World→Prop}{o:Oper}{rest:List Oper}{a:Act}{w:World}{B:Nat}{H:World→List Blk→Prop}
  (hs:Stp P ops W)(hH:Own B H)(hS:H w ((nb,(f x0).toArray,e)::(Lr++L)))(hR:OwL f sz e l sv Lr)(hw:Region.wanted o (yielded ops a.tmps)=true)(hop:o.op=.call { callee:=.builtin .append,args:=#[x,y],argTypes:=#[t,t] })(hx:evO a x=some sv)(hy:evO a y=some (.slice (some ⟨nb,0,none⟩) 1 1))(hT:SlT P t e sz bytes)
  (hf:∀a∈l,(f a).length=sz)(hfx:(f x0).length=sz)(hone:∀v∈f x0,v.oneCell'=true)(hm:l.length+1≤maxLen∧(l.length+1)*bytes≤140737488355328)
  (hk:∀sv' Lr' w',OwL f sz e (l++[x0]) sv' Lr'→H w' (Lr'++L)→W rest (a.put o.dst sv') w'):W (o::rest) a w:=by
 have hsrc:∀j v,(f x0)[j]?=some v→w.cell? ((⟨nb,0,none⟩:Addr).add j)=some v:=Z3 (hH.blk 0 hS rfl) (fun j v h=>by rw[A4D];exact h)
 rcases hR with⟨rfl,rfl,rfl⟩|⟨g,c,sp,rfl,h1,h2,h3,rfl⟩
 ·simp only[A4x] at hS
  refine s_append0 hs hH hS hw hop hx hy hT (xs:=f x0) hsrc (by rw[hfx,A5M]) (by
   obtain⟨q1,q2⟩:=hm
   simp only[A4W,A4D] at q1 q2
   exact⟨by omega,q1,q2⟩) ?_
  intro by2 cy2 S2 w' hq1 hq2 hq3 hS2
  refine hk _ [(by2,(([]++[x0]).flatMap f++S2).toArray,e)] _ (.inr ⟨by2,cy2,S2,rfl,hq1,hq2,hq3,rfl⟩) ?_
  have hn:=hH.nodup hS2
  rw[show f x0=([]++[x0]).flatMap f by rw[A4x,List.flatMap_singleton]] at hS2
  simp only[A5f,A5o,A4O,not_or] at hn
  refine hH.sub (L':=(by2,(([]++[x0]).flatMap f++S2).toArray,e)::L) hS2 (fun z hz=>?_) ?_
  ·rcases A4O.1 hz with rfl|hz
   ·exact A4t ..
   ·exact A4A _ (A4A _ hz)
  ·simp only[A5f,A5o]
   exact⟨hn.1.2,hn.2.2⟩
 ·simp only[A4K,A4x] at hS
  refine U2 hs hH hS hw hop hx hy hT (by exact at_ 1 rfl) (olds:=l.flatMap f) (spare:=sp) H8 (owl_len hf) h1 h3 (xs:=f x0) hsrc (by rw[hfx,A5M]) hone ⟨hm.1,hm.2,h2⟩ rfl ?_
  intro by2 cy2 S2 w' hq1 hq2 hq3 hS2
  have e1:l.length+1=(l++[x0]).length:=by rw[A4p];rfl
  refine hk _ [(by2,((l++[x0]).flatMap f++S2).toArray,e)] _ (.inr ⟨by2,cy2,S2,by rw[e1],by rw[←e1];exact hq1,hq2,by rw[←e1];exact hq3,rfl⟩) ?_
  have hn:=hH.nodup hS2
  rw[←owl_snoc] at hS2
  simp only[A5j,A5i,A5f,A5o,A4O,not_or] at hn
  refine hH.sub (L':=(by2,((l++[x0]).flatMap f++S2).toArray,e)::L) hS2 (fun z hz=>?_) ?_
  ·rcases A4O.1 hz with rfl|hz
   ·exact A4t ..
   ·exact A4A _ (A4A _ hz)
  ·simp only[A5f,A5o]
   exact⟨hn.1.2,hn.2.2⟩
end
section
def saysR(C:List UInt8):Nat:=if numR C 8≤56 then numR C 8 else 0
theorem saysR_le(C:List UInt8):saysR C≤56:=by unfold saysR;split<;>omega
end
section
def firX(X:List UInt8)(n:Nat):List UInt8:=if 0<n then celX X 0 else zs 128
theorem firX_len{X:List UInt8}{n:Nat}(h:X.length=128*n):(firX X n).length=128:=by
 unfold firX
 split
 ·exact celX_len h H6
 ·exact zs_len 128
theorem putsFn_any(X:List UInt8)(n:Nat)(v:Value)(w0:World)(hv:CellsAt w0 v X n) :
  Calls Tryz.prog 123 #[v] w0 fun e w'=>∃gm gc,e=.returned (.func (.func 152) #[] #[.pointer (some ⟨gm,0,none⟩),.pointer (some ⟨gc,0,none⟩)])∧w0.heap.size≤gm∧w0.heap.size≤gc∧¬gm=gc∧blk w' gm=some (.cells #[.int .i64 (numR (firX X n) 8:Int)] 3 (0,0))∧blk w' gc=some (.cells (bvs (firX X n)) 39 (0,0))∧Below w0.heap.size w0 w':=by
 have hlF:=firX_len hv.1
 obtain⟨hX,p,c,rfl,hc,hp0,hcell⟩:=hv
 have hS:=St.start w0
 have sZ:csz (bvs (zs 128))=128:=by rw[I2,zs_len]
 have l2:(((firX X n).drop 8).take 2).length=2:=by rw[A4u,A4J];omega
 have hbg:=fun w b (hv:BytesAt w (.slice (some ⟨b,8,none⟩) 2 120) (((firX X n).drop 8).take 2))=>big_quiet _ (((firX X n).drop 8).take 2) w hv H6
 have hN:beN (((firX X n).drop 8).take 2)=numR (firX X n) 8:=rfl
 have hlt:=numR_lt (firX X n) 8
 obtain⟨N,hN2⟩:∃N,numR (firX X n) 8=N:=⟨_,rfl⟩
 rw[hN] at hbg
 rw[hN2] at hbg hlt ⊢
 have hbF:∀w b,blk w b=some (.cells (bvs (firX X n)) 39 (0,0))→BytesAt w (.slice (some ⟨b,8,none⟩) 2 120) (((firX X n).drop 8).take 2):=fun w b h=>T4 h H6 H6
 by_cases h0:0<n
 ·obtain⟨b0,o,cs,ty,fr,rfl,hb,hcc⟩:=hcell h0
  obtain⟨c1,c2,c3⟩:=celX_cut hX h0 hcc
  have hF:firX X n=celX X 0:=if_pos h0
  rw[A5I,A5C] at c1 c2
  rw[←hF] at c2
  obtain⟨F,hFF⟩:∃F,firX X n=F:=⟨_,rfl⟩
  rw[hFF] at c2 hbg hbF hlF ⊢
  have sF:csz (bvs F)=128:=by rw[I2,hlF]
  clear hFF hF hN hN2 l2 c3
  go_enter Tryz.func123,Tryz.ntmps123
  refine Zxsm ?_;clear hS;intro _ b w w hS _ _
  repeat' (first|refine Zasm ?_|(refine Zks ?_;clear hS;intro b w hS)|(refine Ztsm ?_;clear hS;intro w hS)|(refine Zc ?_ ?_<;>intro hc)|((with_reducible refine cons_list ?_);first|(refine J0 H9 own_st hS (hbg _ _ (hbF _ _ (hS.blk 0 rfl))) ?_;clear hS;intro w hS;refine I1 ?_)|(refine Stp.go H9 H8 H8 (r_convR H8 H8 G2 G2 (wrap_small2 hlt)) ?_;refine I1 ?_))|(refine Zg ?_;first|go_step|go_step3|refine Zr ?_)|fail)
  go_ret
  exact⟨_,_,rfl,hS.low 0 rfl,hS.low 1 rfl,hS.ne 0 1 rfl rfl H5,hS.blk 0 rfl,hS.blk 1 rfl,hS.below⟩
 ·have hF:firX X n=zs 128:=if_neg h0
  rw[hF] at hbg hbF ⊢
  obtain rfl:n=0:=by omega
  clear hF hN hN2 l2
  go_enter Tryz.func123,Tryz.ntmps123
  repeat' (first|refine Zasm ?_|(refine Zks ?_;clear hS;intro b w hS)|(refine Ztsm ?_;clear hS;intro w hS)|(refine Zc ?_ ?_<;>intro hc)|((with_reducible refine cons_list ?_);first|(refine J0 H9 own_st hS (hbg _ _ (hbF _ _ (hS.blk 0 rfl))) ?_;clear hS;intro w hS;refine I1 ?_)|(refine Stp.go H9 H8 H8 (r_convR H8 H8 G2 G2 (wrap_small2 hlt)) ?_;refine I1 ?_))|(refine Zg ?_;first|go_step|go_step3|refine Zr ?_)|fail)
  go_ret
  exact⟨_,_,rfl,hS.low 0 rfl,hS.low 1 rfl,hS.ne 0 1 rfl rfl H5,hS.blk 0 rfl,hS.blk 1 rfl,hS.below⟩
theorem puts1_iter(C:List UInt8)(hC:C.length=128)(gm gc:Nat)(W0:World)(hgm:blk W0 gm=some (.cells #[.int .i64 (numR C 8:Int)] 3 (0,0)))(hgc:blk W0 gc=some (.cells (bvs C) 39 (0,0))) :
  IterAt Tryz.prog 152 #[.pointer (some ⟨gm,0,none⟩),.pointer (some ⟨gc,0,none⟩)] (fun k=>#[.int .i64 (k:Int),.int .i64 (numR C (10+2*k):Int)]) (some (saysR C)) [gm,gc] W0:=by
 intro lb J Jx M W L0 hbW hR hM hJ0 hH' hY
 have hmW:blk W gm=some (.cells #[.int .i64 (numR C 8:Int)] 3 (0,0)):=(hbW.block gm (J5 hgm)).trans hgm
 have hcW:blk W gc=some (.cells (bvs C) 39 (0,0)):=(hbW.block gc (J5 hgc)).trans hgc
 have hgn:gm∉L0.map (·.1):=hR gm (A4t ..)
 have hgn2:gc∉L0.map (·.1):=hR gc (A4A _ (A4t ..))
 have sC:csz (bvs C)=128:=by rw[I2,hC]
 have hle:=saysR_le C
 have hsr:saysR C=if numR C 8≤56 then numR C 8 else 0:=rfl
 have hlt2:=numR_lt C 8
 have hnb:∀k:Nat,k≤56→∀w,Calls Tryz.prog 153 #[.agg (bvs C),.int .i64 (8+2*((k:Int)+1))] w fun e w'=>e=.returned (.int .i64 (numR C (10+2*k):Int))∧Below w.heap.size w w':=fun k hk w=>by
  have:=number_any C hC (10+2*k) H6 w
  rwa [show ((10+2*k:Nat):Int)=8+2*((k:Int)+1) by omega] at this
 obtain⟨q,hq⟩:∃q,saysR C=q:=⟨_,rfl⟩
 obtain⟨m,hm⟩:∃m,numR C 8=m:=⟨_,rfl⟩
 rw[hq] at hle hsr hY ⊢
 rw[hm] at hsr hmW hlt2
 clear hq hm hgm hgc hbW hR
 refine(callsIn_wide (n:=1)).1 ?_
 refine callsIn_of_wp Tryz.func152 rfl trivial ?_ rfl
 simp only[Tryz.ntmps152,A4V,A4G,A4W,Nat.reduceAdd,Nat.reduceSub,A5r,A5s,A5E,A5u,A4x,A4K]
 have hS:=St.start W
 refine ZyVm ?_;intro _
 gi_loopg [4] q (fun r u4 wr=>∃k L,r+k=q∧u4=.int .i64 (k:Int)∧J k L∧Rd L0 W L wr)
 case atStart=>exact⟨0,L0,by omega,rfl,hJ0,.call hH' hS.below⟩
 case round =>
  obtain⟨k,L,hk,rfl,hJ,hRd⟩:=hrel
  have hmr:blk wr gm=some (.cells #[.int .i64 (m:Int)] 3 (0,0)):=(hRd.farCells hmW hgn).1
  have hcr:blk wr gc=some (.cells (bvs C) 39 (0,0)):=(hRd.farCells hcW hgn2).1
  replace hS:=St.start wr
  by_cases hlt:k<q
  ·have h56:m≤56:=by
    rcases A6t 56 m with h|h
    ·rw[if_neg H6] at hsr;omega
    ·exact h
   rw[if_pos h56] at hsr
   subst hsr
   have hnk:=hnb k H6
   have hyk:=fun W=>hY k L W hJ
   dsimp only at hyk
   obtain⟨N,hN⟩:∃N,numR C (10+2*k)=N:=⟨_,rfl⟩
   rw[hN] at hnk hyk
   repeat' (first|refine ZaVm ?_|((with_reducible refine cons_in ?_);first|((first|refine I7 I4 E3 ?_|refine I7 I4 (by first|exact((hS).far hcr).1) ?_|refine I8 I4 E3 ?_|refine I8 I4 (by first|exact((hS).far hcr).1) ?_)<;>refine I1 ?_))|(refine ZkV ?_;clear hS;intro b w hS)|(refine ZtVm ?_;clear hS;intro w hS)|(refine Zcw ?_ ?_<;>intro hc)|((with_reducible refine cons_in ?_);first|(refine J0 I4 own_st hS (hnk _) ?_;clear hS;intro w hS;refine I1 ?_))|(refine Zi ?_;first|gi_step|refine Zq ?_)|fail)
   have hRd1:Rd L0 W L _:=hRd.trans (.call hRd.holds hS.below)
   (refine A2M H8 H8 H8 H8 H8 (by simpa using hyk _ hRd1 (fun n h=>by cases h;omega)) ?_)
   rintro e W3 ⟨L2,hRd2,(⟨rfl,hJ2⟩|⟨rfl,hx⟩)⟩
   ·refine⟨_,rfl,?_⟩
    refine I1 ?_
    have hRd3:=hRd1.trans hRd2
    replace hS:=St.start W3
    refine ZdVm ?_;intro _
    gi_roundg (gk - 1)
    case rel=>exact⟨k+1,L2,by omega,by push_cast;rfl,hJ2,hRd3⟩
    case measure=>omega
   ·refine⟨_,rfl,?_⟩
    refine I1 ?_
    have hRd3:=hRd1.trans hRd2
    replace hS:=St.start W3
    refine ZdVm ?_;intro _
    refine bodyPost_end (results_none rfl _ _ _) rfl ?_
    exact⟨⟨_,rfl⟩,L2,hRd3,.inr hx⟩
  ·obtain rfl:k=q:=by omega
   by_cases h56:m≤56
   ·rw[if_pos h56] at hsr
    subst hsr
    refine ZyVm ?_;intro _ _
    refine bodyPost_end (results_none rfl _ _ _) rfl ?_
    exact⟨⟨_,rfl⟩,L,hRd.trans (.call hRd.holds hS.below),.inl ⟨_,rfl,hJ⟩⟩
   ·rw[if_neg h56] at hsr
    subst hsr
    by_cases h00:(0:Int)<(m:Int)
    ·repeat' (first|refine ZaVm ?_|((with_reducible refine cons_in ?_);first|((first|refine I7 I4 E3 ?_|refine I7 I4 (by first|exact((hS).far hcr).1) ?_|refine I8 I4 E3 ?_|refine I8 I4 (by first|exact((hS).far hcr).1) ?_)<;>refine I1 ?_))|(refine ZkV ?_;clear hS;intro b w hS)|(refine ZtVm ?_;clear hS;intro w hS)|(refine Zcw ?_ ?_<;>intro hc)|(refine Zi ?_;first|gi_step|refine Zq ?_)|fail)
     refine bodyPost_end (results_none rfl _ _ _) rfl ?_
     exact⟨⟨_,rfl⟩,L,hRd.trans (.call hRd.holds hS.below),.inl ⟨_,rfl,hJ⟩⟩
    ·omega
end
section
attribute [local irreducible] cellN
instance(priority:=2000) instRdA_1:StT Tryz.prog 93 [(0,1),(1,128)] (.int .i64 0::(zs 128).map bv):=⟨by kernel_rfl⟩
theorem A2k(a:Int){C:List UInt8}(hC:C.length=128):Tryz.prog.built 93 [(0,.int .i64 a),(1,.agg (bvs C))]=some (hdV a C) :=
 A0z (pl:=[(0,1),(1,128)]) (z:=.int .i64 0::(zs 128).map bv) G2 (A0C (cs:=.int .i64 a::C.map bv) (FillS.one (off:=0) rfl rfl H7 rfl (FillS.row (off:=1) (n:=128) rfl (by rw[I2,hC]) (by rw[A5F,A4G,A4z,zs_len];omega) (by
  rw[A4F (by rw[A5F,A4G,A4z,zs_len];omega),A4S]
  rfl) FillS.nil)))
theorem cut_two{cs:Array Value}{o:Nat}{x y:Value}(h1:cs[o]?=some x)(h2:cs[o+1]?=some y):cut cs o 2=#[x,y]:=by
 have hsz:=(A4H.1 h2).1
 have hex:cs.extract o (o+2)=#[x,y]:=by
  apply A5D
  intro i
  rw[A6k]
  match i with
  | 0=>rw[if_pos H6];exact h1
  | 1=>rw[if_pos H6];exact h2
  | i+2=>rw[if_neg H6];rfl
 unfold cut
 split
 ·rename_i h
  have:cs.extract o (o+2)=cs:=by
   rw[h.1,A4D]
   have h2:=h.2
   rw[K3] at h2
   rw[←h2,Array.extract_size]
  rw[←this];exact hex
 ·exact hex
theorem PutsAt.own{w:World}{g c:Nat}{l:List Pt}{sp:List Value}{t:TypeId}{fr:Nat × Nat}{n:Nat}(ho:okP l)(hn:l.length=n)(hc:n≤c)(hb:blk w g=some (.cells (putsC l++sp).toArray t fr)):PutsAt w (.slice (some ⟨g,0,none⟩) n c) l:=by
 subst hn
 exact⟨ho,_,c,rfl,hc,(fun h=>by cases h),fun _=>⟨g,0,_,t,fr,rfl,hb,fun j x hj=>by
  rw[A4D,A4w,A4M (A4v.1 hj).1,hj]⟩⟩
theorem A1C{x:Pt}:∀v∈putC x,v.oneCell'=true:=by
 intro v h
 rcases A4O.1 h with rfl|h
 ·rfl
 ·obtain⟨y,_,rfl⟩:=A4I.1 h;rfl
end
end
section
open Go.ChangeShapes Go.WideShapes Go.ChangeAt Go.RowKit
end
section
open Go.ChangeShapes Go.WideShapes Go.ChangeAt Go.RowKit
attribute [local irreducible] wpList wpListIn Oper.quietAt wpM
attribute [local irreducible] encL cellN
theorem A2n(key:List UInt8)(n:Int){l:List Pt}(ho:okP l)(h:l.length≤56):(encL key n l).length=128*(l.length+2):=by
 unfold encL
 rw[A4p,A4p,W7 n h,A1G,A2S ho];omega
theorem PutsAt.nil(w:World):PutsAt w (.slice none 0 0) []:=⟨fun _ h=>absurd h A5b,none,0,rfl,A4C _,fun _=>rfl,fun h=>absurd rfl h⟩
end
section
open Go.RowKit
section
variable{P:Program}{md:Region.Mode}{Q:Exit→Act→World→Prop}{s:List Nat}{l:List Oper}{lp:Nat}
theorem permR_wp(o:Oper)(a:Act)(w:World)(K:Act→World→Prop):Oper.wpIn (Fence.wide.inRound lp) 0 P (reO s o) a w K Q↔Oper.wpIn (Fence.wide.inRound lp) 0 P o a w K Q:=Iff.rfl
theorem any_permR(h:permOK s l=true):∀(fuel:Nat)(x y:Array Bool)(a:Act)(w:World),x.size=l.length→y.size=l.length→(∀i,i<l.length→y.getD (posL s i) true=x.getD i true) →
  wpAnyIn (Fence.wide.inRound lp) 0 P md (permL s l).toArray Q fuel y a w→wpAnyIn (Fence.wide.inRound lp) 0 P md l.toArray Q fuel x a w:=by
 intro fuel
 have hnil:∀(x y:Array Bool),x.size=l.length→y.size=l.length→(∀i,i<l.length→y.getD (posL s i) true=x.getD i true)→(Region.ready md (permL s l).toArray y=[]↔Region.ready md l.toArray x=[]):=by
  intro x y hx hy hxy
  constructor
  ·intro h0
   refine A5B.2 fun i hi=>?_
   obtain⟨_,o,ho,_⟩:=mem_ready.1 hi
   have hil:i<l.length:=by simpa using (A4H.1 ho).1
   have:=(Z6 (md:=md) h hx hy hxy hil).2 hi
   rw[h0] at this;cases this
  ·intro h0
   refine A5B.2 fun k hk=>?_
   obtain⟨_,o,ho,_⟩:=mem_ready.1 hk
   have hkl:k<l.length:=by have:=(A4H.1 ho).1;rw[A4V,A3L h] at this;exact this
   obtain⟨i,hi,hil,rfl⟩:=perm_2 h hkl
   have:=(Z6 (md:=md) h hx hy hxy hil).1 hk
   rw[h0] at this;cases this
 induction fuel with
 | zero =>
  intro x y a w hx hy hxy hA
  exact⟨(hnil x y hx hy hxy).1 hA.1,hA.2⟩
 | succ fuel ih =>
  intro x y a w hx hy hxy hA
  refine⟨fun h0=>hA.1 ((hnil x y hx hy hxy).2 h0),fun i hi=>?_⟩
  obtain⟨_,o,ho,_⟩:=mem_ready.1 hi
  have hil:i<l.length:=by simpa using (A4H.1 ho).1
  have ho2:l[i]?=some o:=by simpa using ho
  have h1:=hA.2 (posL s i) ((Z6 (md:=md) h hx hy hxy hil).2 hi)
  have hp:=perm_at h ho2
  have hK:∀a' w',wpAnyIn (Fence.wide.inRound lp) 0 P md (permL s l).toArray Q fuel (y.setIfInBounds (posL s i) true) a' w'→wpAnyIn (Fence.wide.inRound lp) 0 P md l.toArray Q fuel (x.setIfInBounds i true) a' w':=fun a' w' hh=>by
   refine ih _ _ a' w' (by simpa using hx) (by simpa using hy) (fun j hj=>?_) hh
   have hj1:=A1W h hj
   have hi1:=A1W h hil
   by_cases hji:j=i
   ·subst hji
    simp[Array.getD,hx,hy,hj,hj1.1]
   ·have hne:posL s i≠posL s j:=fun e=>hji (by
     have:=hj1.2
     rw[←e,hi1.2] at this
     exact(Option.some.inj this).symm)
    rw[getD_set_ne true hne,getD_set_ne true (Ne.symm hji)]
    exact hxy j hj
  unfold wpOpIn at h1 ⊢
  rw[A4w,hp] at h1
  rw[A4w,ho2]
  simp only at h1 ⊢
  rw[perm_wanted h ho2] at h1
  split
  ·next hw =>
   rw[if_pos hw] at h1
   exact Oper.wpIn_mono hK ((permR_wp o a w _).1 h1)
  ·next hw =>
   rw[if_neg hw] at h1
   exact⟨h1.1,hK _ _ h1.2⟩
theorem any_monoR{n:Nat}{a:Act}{w:World}(hB:frontOK md (l.take n) (l.drop n)=true)(hND:noDefer (l.take n)=true)
  (h:wpM P md l.toArray w (fun a' F=>∀b w',Cls w w'→(∀x∈F,w.heap.size≤b x.1∧blk w' (b x.1)=some (.cells x.2.1 x.2.2 (0,0)))→(∀x∈F,∀y∈F,x.1≠y.1→b x.1≠b y.1)→wpListIn (Fence.wide.inRound lp) 0 P l.toArray Q (l.drop n) (a' b) w') (l.take n) 0 (fun _=>a) []) :
  wpAnyIn (Fence.wide.inRound lp) 0 P md l.toArray Q l.length (Array.replicate l.length false) a { w with drawn:=w.drawn+1 }:=by
 have hh:l.take n++l.drop n=l:=A4L n l
 generalize l.take n=A at *
 generalize l.drop n=T at *
 subst hh
 obtain⟨L,hL,hstep,hQ⟩:=wpM_out A 0 _ [] h
 have hc:Cls w { w with drawn:=w.drawn+1 }:=⟨rfl,rfl,rfl,A4C _,fun _ _=>rfl⟩
 refine any_frontR hB hND hL hstep (fun b w' hN=>hQ b w' hN.1 (fun x hx=>?_) (fun x hx y hy hne=>?_)) _ _ (fun _=>0) a _ H7 (fun j o _ hl=>by simp only[Array.getD] at hl;split at hl<;>simp at hl) (fun j _ hj=>by simp only[A4p] at hj;simp[Array.getD];omega) ?_ ?_ ?_
 ·rcases mem_factsT _ _ _ hx with h1|⟨k,o,mk,hk,he⟩
  ·cases h1
  ·have:x.1=k:=by omega
   rw[this]
   exact hN.2.1 k o mk _ _ hk rfl
 ·rcases mem_factsT _ _ _ hx with h1|⟨k,o,mk,hk,he⟩
  ·cases h1
  rcases mem_factsT _ _ _ hy with h1|⟨k',o',mk',hk',he'⟩
  ·cases h1
  have e1:x.1=k:=by omega
  have e2:y.1=k':=by omega
  rw[e1,e2] at hne ⊢
  exact hN.2.2 k k' _ _ _ _ _ _ _ _ hk hk' rfl rfl hne
 ·unfold left
  exact A4T A6r H7
 ·refine(Sees.start L a (fun _=>0)).congr (fun j _=>?_) (fun _ _ _=>rfl)
  simp only[Array.getD]
  split<;>simp
 ·refine⟨hc,fun j o mk cs t hj hl=>?_,fun i j x y mx cx tx my cy ty hi hj h1 _=>?_⟩
  ·simp only[Array.getD] at hl
   split at hl<;>simp at hl
  ·simp only[Array.getD] at h1
   split at h1<;>simp at h1
theorem A4l{id:Nat}{a:Act}{w:World}(s:List Nat)(n:Nat){l2:List Oper}(hm:P.follows .mixedOrders=true)(hs:permOK s l=true)(hl:permL s l=l2)(hB:frontOK .any (l2.take n) (l2.drop n)=true)(hND:noDefer (l2.take n)=true)
  (h:wpM P .any l2.toArray w (fun a' F=>∀b w',Cls w w'→(∀x∈F,w.heap.size≤b x.1∧blk w' (b x.1)=some (.cells x.2.1 x.2.2 (0,0)))→(∀x∈F,∀y∈F,x.1≠y.1→b x.1≠b y.1)→wpListIn (Fence.wide.inRound lp) 0 P l2.toArray Q (l2.drop n) (a' b) w') (l2.take n) 0 (fun _=>a) []) :
  (Code.region id l.toArray true).wpIn (Fence.wide.inRound lp) 0 P Q a w:=by
 subst hl
 have h1:=any_monoR hB hND h
 rw[A3L hs] at h1
 refine wpIn_region_any hm ?_
 refine any_permR hs _ _ _ a _ H7 H7 (fun i hi=>?_) h1
 have:=(A1W hs hi).1
 simp[Array.getD,hi,this]
theorem wpM_allocZ{ops:Array Oper}{W:World}{Q:((Nat→Nat)→Act)→List Fact→Prop}{o:Oper}{rest:List Oper}{i:Nat}{a:(Nat→Nat)→Act}{F:List Fact}{t:TypeId}{cs:Array Value}(ho:o.op=.alloc t)(hz:ZeroT P t cs)(hw:∀b,Region.wanted o (yielded ops (a b).tmps)=true)
  (h:wpM P md ops W Q rest (i+1) (fun b=>(a b).put o.dst (.pointer (some ⟨b i,0,none⟩))) ((i,cs,t)::F)):wpM P md ops W Q (o::rest) i a F :=
 N8 ho hw cs (fun w=>by
  obtain⟨z,h1,h2⟩:=run_zero (w:=w) hz.is
  unfold execOp
  simp only[Instr.alloc,Sem.run_bind,h1,Result.andThen_ok,newVar,newRow,h2]
  rfl) h
end
end
end Go.Proofs.YtggbbafanhceaaaGreatRR
