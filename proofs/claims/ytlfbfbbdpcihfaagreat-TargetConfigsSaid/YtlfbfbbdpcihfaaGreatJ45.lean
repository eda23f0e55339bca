/- Laws that the claim uses. No condition of their own. -/
import Derived.Test.YtlfbfbbdpcihfaaGreatJ44
set_option maxRecDepth 100000
set_option maxHeartbeats 8000000
set_option linter.all false
namespace Go.Proofs.YtlfbfbbdpcihfaaGreat
section
open Go.ChangeShapes Go.WideShapes Go.ChangeAt Go.RowKit
attribute [local irreducible] wpList wpListIn Oper.quietAt wpM
open PK (okI)
section
variable{P:Program}{o:Oper}{a:Act}{w:World}
theorem r_appendE{x y:Operand}{t e size bytes n c c2:Nat}{p q:Addr}(hop:o.op=.call { callee:=.builtin .append,args:=#[x,y],argTypes:=#[t,t] })(hx:evO a x=some (.slice (some p) n c))(hy:evO a y=some (.slice (some q) 0 c2))(hT:SlT P t e size bytes)(hnc:n<=c):(execOp a.eval o).run P w=.ok (.value (.slice (some p) n c)) w:=by
 obtain⟨ht,inf,z,hie,hz,hsz,hby,hzs,hpos⟩:=elemB_iff hT.is
 exact A0T hop hx hy A8
end
def IntsK(l:List Int)(c:Nat)(cs:Array Value):Prop:=l.length<=c/\∃sp,cs=(l.map (Value.int .i64)++sp).toArray
theorem cloneI(v:Value)(l:List Int)(hne:l≠[])(hm:l.length<=1000)(w:World)(hv:OwAt (fun x=>[Value.int .i64 x]) w v l) :
  Calls Tryz.prog 23 #[v] w fun e w'=>∃g c cs,e=.returned (.slice (some ⟨g,0,none⟩) l.length c)/\w.heap.size<=g/\blk w' g=some (.cells cs 3 (0,0))/\IntsK l c cs/\Below w.heap.size w w':=by
 obtain⟨p,c,rfl,hc,hp0,hcell⟩:=hv
 obtain⟨tb,ti,cs,ty,fr,rfl,htb,hx⟩:=hcell hne
 have hS:=St.start w
 rw[A0E] at hx
 go_enter Tryz.func23,Tryz.ntmps23
 refine Zdsm ?_;clear hS;intro _ _ _ _ b w hS
 refine J9 stp_list own_st hS F1 F1 F1 F1 E5 E3 (olds:=[]) (spare:=[]) F1 F1 E9 F1 (xs:=l.map (Value.int .i64)) (L9 (hS.far htb).1 (fun j v h=>by rw[A3r];exact hx j v h)) D0 (fun v hv=>by obtain⟨x,_,rfl⟩:=A3C.1 hv;rfl) D9 A4 ?_
 clear hS
 intro b' c' sp w' h1 h2 h3 hS
 refine F2 ?_
 refine Zdsm ?_;show _
 go_ret
 exact⟨b',c',_,rfl,(hS.2.1 _ (A3m ..)).1,hS.blk 0 rfl,⟨h1,sp,rfl⟩,hS.below⟩
def secVs(cs:Array Value)(o n:Nat):List Value:=(List.range n).map fun j=>(cs[o+j]?).getD undef
theorem secVs_at{cs:Array Value}{o n j:Nat}(h:j<n):(secVs cs o n)[j]?=some ((cs[o+j]?).getD undef):=by
 unfold secVs
 rw[A3N,A5E h];rfl
theorem secVs_len(cs:Array Value)(o n:Nat):(secVs cs o n).length=n:=by unfold secVs;rw[A3u,A5M]
theorem cloneS(l:List Sx)(hm:l.length<=1000)(v:Value)(wb w:World)(hB0:Below wb.heap.size wb w)(hv:SecAt wb v l) :
  Calls Tryz.prog 24 #[v] w fun e w'=>∃p c,e=.returned (.slice p l.length c)/\l.length<=c/\(p=none->c=0)/\Below w.heap.size w w'/\(l≠[]->∃g CS,p=some ⟨g,0,none⟩/\w.heap.size<=g/\blk w' g=some (.cells CS 71 (0,0))/\∀(i:Nat)(a m:Int)(x y:List UInt8),l[i]?=some (a,m,x,y)->∃sv tv,BytesAt wb sv x/\BytesAt wb tv y/\CS[i*4]?=some (.int .i64 a)/\CS[i*4+1]?=some (.int .i64 m)/\CS[i*4+2]?=some sv/\CS[i*4+3]?=some tv):=by
 obtain⟨vs,hvs,p,c,rfl,hc,hp0,hcell⟩:=hv
 have hS:=St.start w
 by_cases hne:l=[]
 ·subst hne
  cases p with
  | none =>
   obtain rfl:=hp0 rfl
   go_enter Tryz.func24,Tryz.ntmps24
   refine Zdsm ?_;intro _ _ _ _
   go_ret
   exact⟨none,0,rfl,A3t _,fun _=>rfl,hS.below,fun h=>absurd rfl h⟩
  | some q =>
   go_enter Tryz.func24,Tryz.ntmps24
   refine Zdsm ?_;clear hS;intro _ _ _ _ b w hS
   refine Stp.go stp_list F1 F1 (r_appendE F1 F1 F1 E5 (A3t _)) ?_
   refine F2 ?_
   refine Zdsm ?_;show _
   go_ret
   exact⟨_,0,rfl,A3t _,fun h=>(by cases h),hS.below,fun h=>absurd rfl h⟩
 ·obtain⟨tb,ti,cs,ty,fr,rfl,htb0,hx⟩:=hcell hne
  have htb:=(hB0.block tb (G1 htb0)).trans htb0
  have hpos:=A5o.2 hne
  have hcell:∀j,j<l.length*4->∃u,cs[ti+j]?=some u/\u.oneCell'=true:=fun j hj=>by
   obtain⟨⟨a,m,x,y⟩,hs⟩:∃s,l[j / 4]?=some s:=⟨_,A3p E9⟩
   obtain⟨sv,tv,q1,q2,q3,_⟩:=hvs _ a m x y hs
   obtain⟨e1,e2,e3,e4⟩:=hx _ a m x y sv tv hs q1
   obtain⟨p5,c5,rfl,_⟩:=q2.slice
   obtain⟨p6,c6,rfl,_⟩:=q3.slice
   have h4:j % 4=0\/j % 4=1\/j % 4=2\/j % 4=3:=by omega
   rcases h4 with h|h|h|h
   ·exact⟨_,by rw[show ti+j=ti+j / 4*4 by omega];exact e1,rfl⟩
   ·exact⟨_,by rw[show ti+j=ti+j / 4*4+1 by omega];exact e2,rfl⟩
   ·exact⟨_,by rw[show ti+j=ti+j / 4*4+2 by omega];exact e3,rfl⟩
   ·exact⟨_,by rw[show ti+j=ti+j / 4*4+3 by omega];exact e4,rfl⟩
  go_enter Tryz.func24,Tryz.ntmps24
  refine Zdsm ?_;clear hS;intro _ _ _ _ b w hS
  refine J9 stp_list own_st hS F1 F1 F1 F1 E5 E3 (olds:=[]) (spare:=[]) F1 F1 E9 F1 (xs:=secVs cs ti (l.length*4)) (L9 (hS.far htb).1 (fun j v h=>by
   have hj:j<l.length*4:=by have:=(A3n.1 h).1;rwa [secVs_len] at this
   rw[secVs_at hj] at h
   obtain⟨u,hu,_⟩:=hcell j hj
   rw[hu] at h
   rw[A3r,hu];exact h)) (secVs_len _ _ _) (fun v hv=>by
   obtain⟨j,hj,rfl⟩:=A3C.1 hv
   obtain⟨u,hu,h1⟩:=hcell j (A4m.1 hj)
   rw[hu];exact h1) D9 A4 ?_
  clear hS
  intro b' c' sp w' h1 h2 h3 hS
  refine F2 ?_
  refine Zdsm ?_;show _
  go_ret
  refine⟨_,c',rfl,h1,fun h=>(by cases h),hS.below,fun _=>⟨b',_,rfl,(hS.2.1 _ (A3m ..)).1,hS.blk 0 rfl,fun i a m x y hs=>?_⟩⟩
  obtain⟨sv,tv,q1,q2,q3,_⟩:=hvs i a m x y hs
  obtain⟨e1,e2,e3,e4⟩:=hx i a m x y sv tv hs q1
  have hi:=(A3n.1 hs).1
  have hat:∀j u,j<l.length*4->cs[ti+j]?=some u->(([]++secVs cs ti (l.length*4)++sp).toArray)[j]?=some u:=fun j u hj hu=>by
   rw[A3q,A3o,A3E (by rw[secVs_len];exact hj),secVs_at hj,hu];rfl
  exact⟨sv,tv,q2,q3,hat _ _ E9 e1,hat _ _ E9 (by rw[<-A4K];exact e2),hat _ _ E9 (by rw[<-A4K];exact e3),hat _ _ E9 (by rw[<-A4K];exact e4)⟩
instance instTgS_1:GoF Tryz.prog 77:=⟨by kernel_rfl⟩
instance instTgS_2:GoF Tryz.prog 48:=⟨by kernel_rfl⟩
theorem mul64_one(n:Nat)(hn:n=1\/n=2\/n=3)(w0:World):Calls Tryz.prog 77 #[.int .u64 1,.int .u64 (n:Int)] w0 fun e w'=>e=.returned (.tuple #[.int .u64 0,.int .u64 (n:Int)])/\w'=w0:=by
 rcases hn with rfl|rfl|rfl
 all_goals
  go_enter Tryz.func77,Tryz.ntmps77
  go_wp2
  go_ret2
  exact⟨rfl,rfl⟩
theorem mul_one_any(n:Nat)(hn:n=1\/n=2\/n=3)(w0:World):Calls Tryz.prog 48 #[.int .u64 1,.int .u64 (n:Int)] w0 fun e w'=>e=.returned (.tuple #[.int .u64 0,.int .u64 (n:Int)])/\Below w0.heap.size w0 w':=by
 have hS:=St.start w0
 have hm:=fun w=>(mul64_one n hn w).mono (R':=fun e w'=>e=.returned (.tuple #[.int .u64 0,.int .u64 (n:Int)])/\Below w.heap.size w w') fun e w' h=>⟨h.1,h.2 ▸ Below.refl _ _⟩
 go_enter Tryz.func48,Tryz.ntmps48
 repeat' (first|refine Zasm ?_|(refine Zll ?_;(refine g_calls hS (hm _) ?_;clear hS;intro w hS))|(refine Zg ?_;go_step)|fail)
 go_ret2
 exact⟨rfl,hS.below⟩
theorem rep_add{α:Type}(m n:Nat)(a:α):List.replicate (m+n) a=List.replicate m a++List.replicate n a:=List.replicate_append_replicate.symm
def fours(n:Nat):List Value:=List.replicate n (.int .i64 4)
def FourK(n:Nat)(c:Nat)(cs:Array Value):Prop:=c=n/\cs=(fours n).toArray
theorem made_ints0(n:Nat):madeCells #[.int .i64 0] (n*1)=(List.replicate n (Value.int .i64 0)).toArray:=by rw[A4j,made_ints];unfold vints;rw[List.map_replicate]
theorem repeat_any(n:Nat)(hn:1<=n/\n<=3)(v:Value)(w0:World)(hv:∃b ty fr,v=.slice (some ⟨b,0,none⟩) 1 1/\blk w0 b=some (.cells #[.int .i64 4] ty fr)) :
  Calls Tryz.prog 27 #[v,.int .i64 (n:Int)] w0 fun e w'=>∃g c cs,e=.returned (.slice (some ⟨g,0,none⟩) n c)/\w0.heap.size<=g/\blk w' g=some (.cells cs 3 (0,0))/\FourK n c cs/\Below w0.heap.size w0 w':=by
 obtain⟨b0,ty,fr,rfl,hb⟩:=hv
 have hS:=St.start w0
 have hm:=fun w=>mul_one_any n E9 w
 have hsrc:∀w,Below w0.heap.size w0 w->∀j v,([Value.int .i64 4])[j]?=some v->w.cell? ((⟨b0,0,none⟩:Addr).add j)=some v:=fun w h=>L9 ((h.block b0 (G1 hb)).trans hb) (fun j v h=>by rw[A3x];exact h)
 have hw1:IntKind.u64.wrap 1=1:=by decide
 have hwu:IntKind.u64.wrap (n:Int)=(n:Int):=by rw[IntKind.wrap_u64];omega
 have hwi:IntKind.i64.wrap (n:Int)=(n:Int):=by rw[IntKind.wrap_i64];omega
 go_enter Tryz.func27,Tryz.ntmps27
 repeat' (first|(refine Zll ?_;first|(refine g_calls hS (hm _) ?_;clear hS;intro w hS)|(refine Stp.go stp_list F1 F1 (r_convK F1 F1 E5 E5 hw1) ?_;refine F2 ?_)|(refine Stp.go stp_list F1 F1 (r_convK F1 F1 E5 E5 hwu) ?_;refine F2 ?_)|(refine Stp.go stp_list F1 F1 (r_convK F1 F1 E5 E5 hwi) ?_;refine F2 ?_))|refine Zasm ?_|(refine Zg ?_;go_step)|fail)
 refine O2 stp_list own_st hS F1 F1 F1 F1 E5 E5 (made_ints0 n) E9 E9 ?_
 clear hS
 intro g w hS
 refine F2 ?_
 refine Zdsm ?_;intro _ _
 have hz:List.replicate n (Value.int .i64 0)=[.int .i64 0]++List.replicate (n - 1) (.int .i64 0):=by rw[show n=1+(n - 1) by omega,rep_add,A4e];rfl
 refine s_copyD stp_list own_st hS F1 F1 F1 F1 E5 E3 (pre:=[]) (mid:=[.int .i64 0]) (post:=List.replicate (n - 1) (.int .i64 0)) hz rfl rfl (xs:=[.int .i64 4]) (by show 1=min 1 n*1;omega) (hsrc _ hS.below) (fun v hv=>by rcases A4p.1 hv with rfl;rfl) rfl rfl (q:=1) (by show ((min 1 n:Nat):Int)=1;omega) ?_
 clear hS hz
 intro w hS
 refine F2 ?_
 refine Zdsm ?_;intro _ _
 go_loopw [8] (fun u8 wr=>∃k:Nat,(1<=k/\k<=n)/\u8=.int .i64 (k:Int)/\St w0 wr [(g,(fours k++List.replicate (n - k) (Value.int .i64 0)).toArray,3)]) (fun u8 _=>n - (intOf u8).toNat)
 case atStart=>exact⟨1,⟨A3t _,hn.1⟩,rfl,hS⟩
 case round =>
  clear hS
  obtain⟨k,⟨hk1,hk⟩,rfl,hS⟩:=hrel
  by_cases hlt:k<n
  ·have hf1:fours k=[Value.int .i64 4]++fours (k - 1):=by unfold fours;rw[show k=1+(k - 1) by omega,rep_add,A4e];rfl
   have hf2:fours k++[Value.int .i64 4]=fours (k+1):=by unfold fours;rw[rep_add];rfl
   have lf:(fours k).length=k:=by unfold fours;rw[List.length_replicate]
   have hz:fours k++List.replicate (n - k) (Value.int .i64 0)=fours k++[.int .i64 0]++List.replicate (n - (k+1)) (.int .i64 0):=by rw[A3K,show n - k=1+(n - (k+1)) by omega,rep_add];rfl
   refine Zdsm ?_;intro _
   refine T0 [0,1,2,3,4,5,6,7,8,9] E7 E7 ?_
   intro w hcq
   replace hS:=hS.cls hcq
   clear hcq
   (refine Zpl 0 ?_);refine G9 ?_
   (refine Zpl 1 ?_);refine G9 ?_
   (refine Zpl 2 ?_);refine G9 ?_
   (refine Zpl 3 ?_);refine G9 ?_
   (refine Zpl 4 ?_);refine G9 ?_
   (refine Zpl 5 ?_);refine G9 ?_
   (refine Zpl 6 ?_);refine G9 ?_
   refine F9 7 E7 F1 ?_
   refine s_copyD stp_list own_st hS F1 F1 F1 F1 E5 E3 (pre:=fours k) (mid:=[.int .i64 0]) (post:=List.replicate (n - (k+1)) (.int .i64 0)) hz (by rw[lf]) rfl (xs:=[.int .i64 4]) (by show 1=min k (n - k)*1;omega) (L9 (hS.blk 0 rfl) (fun j v h=>by
    rw[A3x]
    show ((fours k++List.replicate (n - k) (Value.int .i64 0))[j]?)=some v
    rw[hf1,A3K,A3E (by have:=(A3n.1 h).1;exact this)];exact h)) (fun v hv=>by rcases A4p.1 hv with rfl;rfl) rfl rfl (q:=1) (by show ((min k (n - k):Nat):Int)=1;omega) ?_
   clear hS
   intro w hS
   rw[hf2] at hS
   refine F2 ?_
   refine Zdsm ?_;show _
   (refine Zpl 8 ?_);refine G9 ?_
   (refine Zpl 9 ?_);refine G9 ?_
   refine K6 E7 ?_
   refine Zdsm ?_;show _
   go_roundw
   case rel=>exact⟨k+1,⟨by omega,by omega⟩,by push_cast;rfl,hS⟩
   case measure=>(simp[intOf];omega)
  ·obtain rfl:k=n:=by omega
   rw[A5K,List.replicate_zero,A3Q] at hS
   refine Zdsm ?_;intro _ _ _
   go_ret
   exact⟨g,k,_,rfl,(hS.2.1 _ (A3m ..)).1,hS.blk 0 rfl,⟨rfl,rfl⟩,hS.below⟩
end
section
open Go.ChangeShapes Go.WideShapes Go.ChangeAt Go.RowKit
attribute [local irreducible] wpList wpListIn Oper.quietAt wpM
open Go.Maps
open PK (okI)
attribute [local irreducible] shaL tagL
def tgC(P:Nat)(C:Cf)(sv mv dv tv rv:Value)(tick:Int):Array Value:=#[.pointer (some ⟨P,0,none⟩),.int .i64 C.n,.int .i64 C.q,.int .i64 C.k,sv,mv,dv,tv,rv,.int .i64 tick]
def frF(C:Cf)(t:Nat):List UInt8:=freshD (C.seeds.getD t 0) 4
theorem made_ptrs(n:Nat):madeCells #[.pointer none] (n*1)=(List.replicate n (Value.pointer none)).toArray:=by
 rw[A4j]
 exact made_same n fun i=>by
  rw[show i % (#[Value.pointer none]:Array Value).size=0 from Nat.mod_one i];rfl
theorem fours_at{n t:Nat}(h:t<n):(fours n).toArray[t]?=some (.int .i64 4):=by
 unfold fours
 rw[A3o,A5O,if_pos h]
theorem Y5{Bd:Nat}{H:World->List Blk->Prop}(hH:Own Bd H){w:World}{L L':List Blk}(h:H w L)(hp:L.Perm L'):H w L':=hH.sub h (fun _ hx=>hp.mem_iff.2 hx) ((hp.map _).nodup_iff.1 (hH.nodup h))
theorem key_uniq{L:List Blk}(hn:(L.map (·.1)).Nodup){x y:Blk}(hx:x∈L)(hy:y∈L)(he:x.1=y.1):x=y:=by
 obtain⟨i,hi⟩:=A5m hx
 obtain⟨j,hj⟩:=A5m hy
 have hij:i=j:=(List.getElem?_inj (by rw[A3u];exact(A3n.1 hi).1) hn).1 (by rw[A3N,A3N,hi,hj];exact congrArg some he)
 subst hij
 exact Option.some.inj (hi.symm.trans hj)
theorem own_two{Bd:Nat}{H:World->List Blk->Prop}(hH:Own Bd H){w:World}{L:List Blk}{y1 y2:Blk}(h:H w L)(h1:y1∈L)(h2:y2∈L)(hne:y1.1≠y2.1):∃L',H w (y1::y2::L')/\∀x∈L,x≠y1->x≠y2->x∈L':=by
 have hn:=hH.nodup h
 refine⟨L.filter fun x => !(x.1 == y1.1 || x.1 == y2.1),hH.sub h (fun x hx=>?_) ?_,fun x hx n1 n2=>A5t.2 ⟨hx,?_⟩⟩
 ·rcases A3G.1 hx with rfl|hx
  ·exact h1
  ·rcases A3G.1 hx with rfl|hx
   ·exact h2
   ·exact(A5t.1 hx).1
 ·have hf:((L.filter fun x => !(x.1 == y1.1 || x.1 == y2.1)).map (·.1)).Nodup:=hn.sublist (List.filter_sublist.map _)
  have hq:∀z:Nat,z∈(L.filter fun x => !(x.1 == y1.1 || x.1 == y2.1)).map (·.1)->¬z=y1.1/\¬z=y2.1:=fun z hz=>by
   obtain⟨x,hx,rfl⟩:=A3C.1 hz
   have:=(A5t.1 hx).2
   simpa using this
  simp only[A3X,A4a,A3G,not_or]
  exact⟨⟨hne,fun hm=>(hq _ hm).1 rfl⟩,fun hm=>(hq _ hm).2 rfl,hf⟩
 ·simp only[A4F,Bool.or_eq_false_iff,beq_eq_false_iff_ne,ne_eq]
  exact⟨fun e=>n1 (key_uniq hn hx h1 e),fun e=>n2 (key_uniq hn hx h2 e)⟩
theorem Ten.away{C:Cf}{g:G4}{N:Nat}{su:List UInt8}{L L':List Blk}{t X Q B T TA:Nat}{c1 c2:Array Value}(h:Ten C g N su L t X Q B)(h1:∃p,c1[0]?=some (.pointer p))(h2:∃p,c2[0]?=some (.pointer p))(hL:∀x∈L,x≠(T,c1,80)->x≠(TA,c2,83)->x∈L'):Ten C g N su L' t X Q B:=by
 obtain⟨ca,V,b1,kq,ct,hv,lv,kv,M,tv,U,c,k1,k2,k3,k4,k5⟩:=h
 refine⟨ca,V,b1,kq,ct,hv,lv,kv,M,tv,U,c,hL _ k1 F0 F0,hL _ k2 F0 F0,hL _ k3 F0 F0,fun k hk=>?_,k5⟩
 obtain⟨lT,bT,cT,sp,tyT,e1,e2,e3,hm⟩:=k4 k hk
 have h0:∀c:Array Value,(∃p,c[0]?=some (.pointer p))->c≠((zs 1024).map bv++sp).toArray:=fun c ⟨p,hp⟩ e=>by
  rw[e,A3o,A3E (by rw[A3u,zs_len];omega),A3N] at hp
  cases hz:(zs 1024)[0]? with
  | none=>rw[hz] at hp;cases hp
  | some z=>rw[hz] at hp;cases hp
 exact⟨lT,bT,cT,sp,tyT,e1,e2,e3,hL _ hm (fun e=>h0 _ h1 (by injection e with _ e;injection e with e _;exact e.symm)) (fun e=>h0 _ h2 (by injection e with _ e;injection e with e _;exact e.symm))⟩
theorem SesOk.away{C:Cf}{t k:Nat}{D:DataW Unit}{L L':List Blk}{T TA:Nat}{c1 c2:Array Value}(h:SesOk C t k D L)(hL:∀x∈L,x≠(T,c1,80)->x≠(TA,c2,83)->x∈L'):SesOk C t k D L':=fun m x y h1 h2=>by
 obtain⟨gs,gy,cy,sp,x',k1,k2,k3,k4⟩:=h m x y h1 h2
 exact⟨gs,gy,cy,sp,x',k1,k2,hL _ k3 F0 F0,hL _ k4 F0 F0⟩
section
variable{rd rdp:Rdr}{w00 w0:World}{g:G4}{N:Nat}{su:List UInt8}{co:List Int}{L:List Blk}
theorem tstart_ok(hrd:RdCel rd)(hrp:RdPtr rdp)(C:Cf)(hg:goodC C=true)(sv mv dv:Value)(hv:CfgAt w00 (.agg #[.int .i64 C.n,.int .i64 C.q,.int .i64 C.k,sv,mv,dv]) C){n:Nat}(hn:C.n=(n:Int))(T DR:Nat)(tick:Int)(hD:Dk rd w00 g Fon N su [] co w0 ((T,tgC g.P C sv mv dv (.slice none 0 0) (.slice (some ⟨DR,0,none⟩) n n) tick,80)::L))(hDR:(DR,(fours n).toArray,3)∈L)(hN:N=117*n)(hcl:co.length=n)(hco:∀t,t<n->co.getD t 0=1)(hMd:∀t,t<n->Made su N t (tkeyL C.master t) (frF C t)) :
  Calls Tryz.prog 29 #[.pointer (some ⟨T,0,none⟩)] w0 fun e w'=>∃(TA:Nat)(CS:Array Value)(X Q B:Nat->Nat)(su':List UInt8)(co':List Int)(Lx:List Blk)(nn:Nat)(D:DataW Unit),e=.returned .nilIface/\csz CS=n/\Dk rd w00 g Fon N su' [] co' w' ((T,tgC g.P C sv mv dv (.slice (some ⟨TA,0,none⟩) n n) (.slice (some ⟨DR,0,none⟩) n n) tick,80)::(TA,CS,83)::Lx)/\(∀t,t<n->CS[t]?=some (.pointer (some ⟨X t,0,none⟩))/\Ten C g N su' Lx t (X t) (Q t) (B t))/\MP.mapAt rdp w' (B (n - 1)) nn D/\SesOk C (n - 1) C.secs.length D Lx:=by
 have hS:=hD
 obtain⟨g1,g2,g3,g4,g5,g6⟩:=good_all hg
 have hn3:1<=n/\n<=3:=by omega
 obtain⟨p1,d1,rfl⟩:∃p c,sv=.slice p C.secs.length c:=by obtain⟨_,_,_,h,⟨_,_,p,c,h2,_⟩,_⟩:=id hv;simp only[Value.agg.injEq,Array.mk.injEq,List.cons.injEq] at h;exact⟨p,c,by rw[h.2.2.2.1];exact h2⟩
 unfold tgC at hS |-
 rw[hn] at hS hv |-
 go_enter Tryz.func29,Tryz.ntmps29
 refine ZdKm ?_;intro _ _ _
 refine O2 stp_list own_dk hS F1 F1 F1 F1 E5 E5 (made_ptrs n) E9 E9 ?_
 clear hS
 intro TA w hS
 refine F2 ?_
 refine ZdKm ?_;clear hS;intro w hS _ _
 have hTT:∀{c1 c2:Array Value}{L2:List Blk}{w},Dk rd w00 g Fon N su [] co w ((T,c1,80)::(TA,c2,83)::L2)->T≠TA:=fun h=>by
  have:=own_dk.nodup h
  simp only[A3X,A4a,A3G,not_or] at this
  exact this.1.1
 go_loopw [20] (fun u20 wr=>∃(k:Nat)(CS:Array Value)(X Q B:Nat->Nat)(suk:List UInt8)(cok:List Int)(Lx:List Blk),k<=n/\u20=.int .i64 (k:Int)/\csz CS=n/\(∃p,CS[0]?=some (.pointer p))/\(DR,(fours n).toArray,3)∈Lx/\cok.length=n/\(∀t,k<=t->t<n->cok.getD t 0=1)/\(∀t,k<=t->t<n->Made suk N t (tkeyL C.master t) (frF C t))/\(∀t,t<k->CS[t]?=some (.pointer (some ⟨X t,0,none⟩))/\Ten C g N suk Lx t (X t) (Q t) (B t))/\(0<k->∃nn D,MP.mapAt rdp wr (B (k - 1)) nn D/\SesOk C (k - 1) C.secs.length D Lx)/\Dk rd w00 g Fon N suk [] cok wr ((T,#[.pointer (some ⟨g.P,0,none⟩),.int .i64 (n:Int),.int .i64 C.q,.int .i64 C.k,.slice p1 C.secs.length d1,mv,dv,.slice (some ⟨TA,0,none⟩) n n,.slice (some ⟨DR,0,none⟩) n n,.int .i64 tick],80)::(TA,CS,83)::Lx)) (fun u20 _=>n - (intOf u20).toNat)
 case atStart=>exact⟨0,_,fun _=>0,fun _=>0,fun _=>0,su,co,L,by omega,rfl,by rw[H5];simp,⟨none,by rw[A3o,A5O,if_pos E9]⟩,hDR,hcl,fun t _=>hco t,fun t _=>hMd t,fun t h=>absurd h E9,fun h=>absurd h E9,Y5 own_dk hS (.swap _ _ _)⟩
 case round =>
  clear hS
  obtain⟨k,CS,X,Q,B,suk,cok,Lx,hk,rfl,hCS,hC0,hDRx,hcl2,hco2,hMk,hten,hses,hS⟩:=hrel
  by_cases hlt:k<n
  ·have hfo:=fours_at hlt
   have sF:csz (fours n).toArray=n:=by rw[H5];unfold fours;simp
   have hDR2:=hDRx
   obtain⟨FO,hFO⟩:∃x,(fours n).toArray=x:=⟨_,rfl⟩
   rw[hFO] at hfo hDRx sF
   have hne:T≠TA:=by
    have:=own_dk.nodup hS
    simp only[A3X,A4a,A3G,not_or] at this
    exact this.1.1
   refine ZdKm ?_;intro _ _ _ _ _
   refine MV.region_w_lit 17 [17,18,19,20,21,22] E7 E7 E7 ?_
   dsimp only[List.take,List.drop]
   iterate 17 (first|refine ZV ?_|refine ZVK ?_|(refine MV.wpV_want (fun _=>rfl) (fun K hK=>?_);apply Exists.intro;refine⟨fun pB w' hw' hF=>?_,hK _ _ ?_⟩;(focus (have hZ:=(own_dk).call hS hw';first|exact T6 (by exact Own.mem own_dk hZ (by repeat (first|exact hDRx|refine A3l _ ?_))) (hv:=by(rw[A3r];exact hfo))|exact M8 own_dk hZ (hv:=by rfl)));clear hK K;refine Zo ?_))
   refine MV.wpV_nil ?_
   intro bb w hcq hfq
   replace hS:=(own_dk).call hS hcq
   try dsimp only
   clear hcq hfq
   refine F9 17 E7 F1 ?_
   refine F7 stp_list F1 F1 F1 F1 F1 E5 (topen_ok hrd hrp hS C hg _ hv k E9 E9 (hco2 k (A3t _) hlt) (hMk k (A3t _) hlt)) ?_
   have hN0:=hS.ok
   clear hS
   rintro e w2 ⟨X2,Q2,B2,su2,Ly,nn,D,rfl,hLy,hS,hT2,hout,hmp,hse⟩
   refine⟨_,rfl,?_⟩
   obtain⟨Lz,hS2,hLz⟩:=own_two own_dk hS (hLy _ (A3m ..)) (hLy _ (A3l _ (A3m ..))) hne
   have hsub:∀x∈Lx,x∈Ly:=fun x hx=>hLy x (A3l _ (A3l _ hx))
   have hl2:=hS.ok.2.1
   have hsame:∀t,t<n->t≠k->SameP (117*t) suk su2:=fun t ht hne=>same_of_out (N:=N) (hl2.trans hN0.2.1.symm) hN0.2.1 E9 (b2:=117*k) E9 hout
   have hmap:Mp (Dk rd w00 g Fon N su2 [] (cok.set k 3)) rdp B2 nn D w2 _:=⟨hS2,hmp⟩
   clear hS hS2
   have hS:=hmap
   clear hmap
   have hH:=own_mp (rd:=rdp) (B:=B2) (n:=nn) (D:=D) (own_dk (rd:=rd) (w0:=w00) (g:=g) (F:=Fon) (N:=N) (su:=su2) (l:=[]) (co:=cok.set k 3))
   refine F2 ?_
   refine ZdHm ?_;show _
   (refine Zpl 18 ?_);refine G9 ?_
   (refine Zpl 19 ?_);refine G9 ?_
   (refine Zpl 20 ?_);refine G9 ?_
   (refine Zpl 21 ?_);refine G9 ?_
   (refine Zpl 22 ?_);refine G9 ?_
   refine K6 E7 ?_
   refine ZdHm ?_;clear hS;intro w hS
   go_roundw
   case rel =>
    refine⟨k+1,_,fun t=>if t=k then X2 else X t,fun t=>if t=k then Q2 else Q t,fun t=>if t=k then B2 else B t,su2,_,Lz,by omega,by push_cast;rfl,by rw[Q8];exact hCS,?_,hLz _ (hsub _ hDR2) F0 F0,by rw[A4w];exact hcl2,fun t h1 h2=>?_,fun t h1 h2=>(hMk t E9 h2).frame (hsame t h2 E9),fun t ht=>?_,fun _=>⟨nn,D,?_,?_⟩,hS.1⟩
    ·obtain⟨p,hp⟩:=hC0
     rw[Array.getElem?_setIfInBounds]
     split
     ·split
      ·exact⟨_,rfl⟩
      ·rename_i h1 h2
       rw[H5] at hCS
       omega
     ·exact⟨p,hp⟩
    ·rw[A3I,List.getElem?_set_ne E9,<-A3I]
     exact hco2 t E9 h2
    ·by_cases htk:t=k
     ·subst htk
      dsimp only
      rw[if_pos rfl,if_pos rfl,if_pos rfl]
      refine⟨?_,hT2.away ⟨_,rfl⟩ hC0 hLz⟩
      rw[Array.getElem?_setIfInBounds,if_pos rfl,if_pos (by rw[<-H5,hCS];exact hlt)]
     ·dsimp only
      rw[if_neg htk,if_neg htk,if_neg htk]
      obtain⟨h1,h2⟩:=hten t E9
      refine⟨by rw[Array.getElem?_setIfInBounds,if_neg E9];exact h1,?_⟩
      exact(h2.mono hsub (hsame t E9 htk)).away ⟨_,rfl⟩ hC0 hLz
    ·rw[Nat.add_sub_cancel];dsimp only;rw[if_pos rfl];exact hS.2
    ·rw[Nat.add_sub_cancel];exact hse.away hLz
   case measure=>(simp[intOf];omega)
  ·obtain rfl:k=n:=by omega
   refine ZdKm ?_;intro _ _ _
   go_ret
   obtain⟨nn,D,h1,h2⟩:=hses E9
   exact⟨TA,CS,X,Q,B,suk,cok,Lx,nn,D,rfl,hCS,hS,hten,own_mp own_dk |>.call (L:=[]) ⟨own_dk.sub hS (fun x hx=>by cases hx) F0,h1⟩ (Below.refl _ _) |>.2,h2⟩
end
end
section
open Go.RowKit
attribute [local irreducible] wpList
def pullH(ops:Array Oper)(R:List Nat)(i:Nat):Bool :=
 let R':=R.erase i
 Region.noSelect ops && (Region.ready .any ops (lst ops.size R)).contains i && (lst ops.size R).setIfInBounds i true == lst ops.size R' && R.length == R'.length+1 &&
 (match ops[i]? with
 | some oi=>R'.all (fun j=>match ops[j]? with
  | some oj=>oj.after.toList.any (fun e=>Region.binds .any e && e.on == i) || oi.apart ops oj
  | none=>true) && (List.range ops.size).all (fun j=>j == i || R'.contains j || (lst ops.size R).getD j true)
 | none=>false)
def WH(P:Program)(ops:Array Oper)(Q:Exit->Act->World->Prop)(S:World->Prop)(R:List Nat)(a:Act)(w:World):Prop:=wpAnyH P .any ops Q S R.length (lst ops.size R) a w
section
variable{P:Program}{ops:Array Oper}{Q:Exit->Act->World->Prop}{S:World->Prop}{R:List Nat}{a:Act}{w:World}{o:Oper}
theorem h_start{id:Nat}(S:World->Prop)(R:List Nat)(hm:P.follows .mixedOrders=true)(hR:(lst ops.size R == Array.replicate ops.size false && R.length == ops.size)=true)(h:∀w',Cls w w'->WH P ops Q S R a w'):(Code.region id ops true).wp P Q a w:=by
 simp only[A3A,beq_iff_eq] at hR
 refine wp_region_held (S:=S) hm ?_
 have:=h { w with drawn:=w.drawn+1 } ⟨rfl,rfl,rfl,A3t _,fun _ _=>rfl⟩
 unfold WH at this
 rwa [hR.1,hR.2] at this
theorem h_first{v:Value}(i:Nat)(hok:pullH ops R i=true)(hi':nthL ops.toList i=some o)(hQ:∀(u:Value) c a w,Q (.panic c) (a.put o.dst u) w->Q (.panic c) a w)
  (hy:YieldsIf P ops S o v a)(hS:S w)(h:WH P ops Q S (R.erase i) (a.put o.dst v) w):WH P ops Q S R a w:=by
 have hi:=nth_at hi'
 unfold pullH at hok
 rw[hi] at hok
 simp only[A3A,beq_iff_eq] at hok
 obtain⟨⟨⟨⟨hns,hrd⟩,hset⟩,hlen⟩,hall,hcov⟩:=hok
 unfold WH at h |-
 rw[hlen]
 refine wpAnyH_first hi (Region.noSelect_spec hns) (hQ v) _ _ _ _ ?_ (List.contains_iff_mem.1 hrd) hy hS (by rw[hset];exact h)
 intro j oj hoj hji hun hno
 have hjl:j<ops.size:=(A3y.1 hoj).1
 have h1:=A3V.1 hcov j (A4m.2 hjl)
 simp only[A4S,beq_iff_eq] at h1
 rcases h1 with (h1|h1)|h1
 ·exact absurd h1 hji
 ·have h2:=A3V.1 hall j (List.contains_iff_mem.1 h1)
  rw[hoj] at h2
  simp only[A4S] at h2
  rcases h2 with h2|h2
  ·obtain⟨e,he,hb⟩:=A5H.1 h2
   simp only[A3A,beq_iff_eq] at hb
   exact absurd hb.2 (hno e (by simpa using he) hb.1)
  ·exact h2
 ·rw[h1] at hun;cases hun
theorem J8(i:Nat){v:Value}(hS:S w)(h:WH P ops Q S (R.erase i) (a.put o.dst v) w)(hok:pullH ops R i=true:=by kernel_rfl)(hi':nthL ops.toList i=some o:=by rfl)(hpk:pureKind o=true:=by rfl)(hw:Region.wanted o (yielded ops a.tmps)=true:=by rfl)(hQ:∀(u:Value) c a w,Q (.panic c) (a.put o.dst u) w->Q (.panic c) a w:=by exact fun _ _ _ _ h=>h)(hq:∀(C:World->Prop) w',o.quietAt P a C w' v:=by intro C w';first|exact q_move|exact A1h|exact A0z|exact Y4|exact q_slice|exact A1o|exact q_sliceNil|exact q_pick|exact q_not|exact q_cmp_t|exact q_cmp_f|exact q_add|exact q_sub|exact q_mul|exact q_quo|exact q_rem|exact A1w|exact A0y|exact A1H|exact A0F|exact q_makeInterface|exact q_conv|exact Y7|exact V2):WH P ops Q S R a w:=h_first i hok hi' hQ (pull_pure hpk hw hq).yieldsIf hS h
theorem A0t(i:Nat){v:Value}{b off:Nat}{cs:Array Value}{t ty:TypeId}{fr:Nat × Nat}{x:Operand}(hS:S w)(hb:∀w,S w->blk w b=some (.cells cs ty fr))(h:WH P ops Q S (R.erase i) (a.put o.dst v) w)(hok:pullH ops R i=true:=by kernel_rfl)(hi':nthL ops.toList i=some o:=by rfl)(hop:o.op=.load t x:=by rfl)(hx:evO a x=some (.pointer (some ⟨b,off,none⟩)):=by rfl)(h1:OneT P t:=by infer_instance)(hv:cs.toList[off]?=some v:=by rfl)(hw:Region.wanted o (yielded ops a.tmps)=true:=by rfl)(hQ:∀(u:Value) c a w,Q (.panic c) (a.put o.dst u) w->Q (.panic c) a w:=by exact fun _ _ _ _ h=>h):WH P ops Q S R a w:=h_first i hok hi' hQ (.inl ⟨hw,fun w hw=>A1c hop hx h1 (hb w hw) hv⟩) hS h
theorem R7(i:Nat)(hok:turnOK ops R i=true)(hi':nthL ops.toList i=some o)(h:wpList P ops (Exit.then (fun a w=>S w/\WH P ops Q S (R.erase i) a w) Q) [o] a w):WH P ops Q S R a w:=by
 unfold turnOK at hok
 simp only[A3A,beq_iff_eq] at hok
 obtain⟨⟨hrd,hset⟩,hlen⟩:=hok
 unfold WH at h |-
 rw[hlen]
 refine wpAnyH_all hrd F0 fun k hk=>?_
 rw[A4p] at hk
 subst hk
 rw[hset]
 exact any_op hi' h
theorem h_done(hR:(R.isEmpty && Region.ready .any ops (lst ops.size R) == [])=true)(h:wpList P ops Q [] a w):WH P ops Q S R a w:=by
 simp only[A3A,beq_iff_eq,List.isEmpty_iff] at hR
 obtain⟨rfl,hR⟩:=hR
 unfold wpList at h
 exact wpAnyH_done hR h _
theorem H9{d:Option Nat}{v:Value}{a2:Act}(h:WH P ops Q S R a2 w)(hput:a.put d v=a2:=by(conv=>lhs;simp only[Act.put,A3v,A3w,A3z]);first|done|rfl):WH P ops Q S R (a.put d v) w:=by rw[hput];exact h
end
end
end Go.Proofs.YtlfbfbbdpcihfaaGreat
