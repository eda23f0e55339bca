/- Laws that the claim uses. No condition of their own. -/
import Derived.Test.YtlfbfbbdpcihfaaGreatJ38
set_option maxRecDepth 100000
set_option maxHeartbeats 8000000
set_option linter.all false
namespace Go.Proofs.YtlfbfbbdpcihfaaGreat
section
open Go.ChangeShapes Go.WideShapes Go.ChangeAt Go.RowKit
section
attribute [local irreducible] shaL tagL
theorem A1W(l m:List Pt)(a:Int):lastP (l++m) a=(lastP m a).or (lastP l a):=by
 unfold lastP
 rw[List.reverse_append,List.find?_append]
theorem merge_exists(l:List Pt):∃R,IsMerge l R:=by
 refine rev_ind (p:=fun l=>∃R,IsMerge l R) ⟨[],.nil,fun x=>by simp[lastP]⟩ (fun l x ih=>?_) l
 obtain⟨R,h1,h2⟩:=ih
 refine⟨R.filter (fun y=>decide (y.1<x.1))++x::R.filter (fun y=>decide (x.1<y.1)),?_,fun y=>?_⟩
 ·rw[List.pairwise_append]
  refine⟨h1.filter _,List.pairwise_cons.2 ⟨fun y hy=>by simpa using (A5t.1 hy).2,h1.filter _⟩,fun a ha b hb=>?_⟩
  have ha':a.1<x.1:=by simpa using (A5t.1 ha).2
  rcases A3G.1 hb with rfl|hb
  ·exact ha'
  ·have:x.1<b.1:=by simpa using (A5t.1 hb).2
   omega
 ·rw[M5]
  simp only[A3Y,A3G,A5t,decide_eq_true_eq]
  by_cases he:x.1=y.1
  ·rw[if_pos he]
   constructor
   ·rintro (⟨_,h⟩|rfl|⟨_,h⟩)
    ·omega
    ·rfl
    ·omega
   ·intro h
    exact .inr (.inl (Option.some.inj h).symm)
  ·rw[if_neg he,<-h2 y]
   constructor
   ·rintro (⟨h,_⟩|rfl|⟨h,_⟩)
    ·exact h
    ·exact absurd rfl he
    ·exact h
   ·intro h
    by_cases hlt:y.1<x.1
    ·exact .inl ⟨h,hlt⟩
    ·exact .inr (.inr ⟨h,by omega⟩)
theorem merge_sub{l R:List Pt}(h:IsMerge l R):∀x∈R,x∈l:=fun x hx=>(K8 ((h.2 x).1 hx)).2
theorem A0d{l R:List Pt}(h:IsMerge l R)(hl:inP 117 l):inP 117 R:=fun x hx=>hl x (merge_sub h x hx)
theorem merge_sound{l R:List Pt}(h:IsMerge l R)(hl:inP 117 l)(h56:R.length<=56):soundP R:=by
 refine⟨List.pairwise_map.2 (h.1.imp fun hlt he=>by omega),fun x hx=>?_,h56⟩
 have:=hl x (merge_sub h x hx)
 unfold inR
 omega
theorem inP_ok{l:List Pt}(h:inP 117 l):okP l:=fun x hx=>by
 have:=h x hx
 exact⟨this.2.2,by omega,by omega⟩
theorem A0K{o:Nat}{a c:List UInt8}(hc:c.length=1024):∀{n i:Nat},i<n->n<=8->((lastP (diffN o a c n) ((o:Int)+(i:Int))).map (·.2)).getD (celX a i)=celX c i
 | 0,i,hi,hn=>absurd hi E9
 | n+1,i,hi,hn=>by
  have hin:=T3 (o:=o) (a:=a) hc (show n<=8 by omega)
  unfold diffN
  by_cases he:celX a n=celX c n
  ·rw[if_pos he,A3Q]
   by_cases hin2:i=n
   ·subst hin2
    rw[O5 (fun x hx=>by have:=hin x hx;omega)]
    exact he
   ·exact A0K hc E9 E9
  ·rw[if_neg he,M5]
   by_cases hin2:i=n
   ·subst hin2;rw[if_pos rfl];rfl
   ·rw[if_neg (by dsimp only;omega)]
    exact A0K hc E9 E9
def blkP(ps:List Pt):Prop:=∀x∈ps,((69<=x.1/\x.1<85)\/(93<=x.1/\x.1<109))/\x.2.length=128
theorem A3e:blkP []:=fun x hx=>by cases hx
section
variable{hk:List UInt8}{n:Nat}{M:List UInt8}{T T':Nat->List UInt8}{ps:List Pt}
theorem forP_two:forP T T' 2=([]++diffN (85+24*0) (T 0) (T' 0) 8)++diffN (85+24*1) (T 1) (T' 1) 8:=rfl
theorem sureP_0:lastP (sureP hk n M T T' ps) 0=some (0,headC hk n ((sureM M T').take 88)):=by unfold sureP;rw[M5,if_pos rfl]
theorem sureP_tree(hps:blkP ps)(hT:∀k,(T' k).length=1024){k i:Nat}(hk2:k<2)(hi:i<8):((lastP (sureP hk n M T T' ps) (((85+24*k:Nat):Int)+(i:Int))).map (·.2)).getD (celX (T k) i)=celX (T' k) i:=by
 have i0:=T3 (o:=85+24*0) (a:=T 0) (hT 0) (A3t 8)
 have i1:=T3 (o:=85+24*1) (a:=T 1) (hT 1) (A3t 8)
 unfold sureP
 rw[M5,if_neg (by dsimp only;omega),A1W,O5 (l:=ps) (fun x hx=>by have:=hps x hx;omega),Option.or_none,forP_two,A1W,A3q]
 match k,hk2 with
 | 0,_ =>
  rw[O5 (l:=diffN (85+24*1) _ _ _) (fun x hx=>by have:=i1 x hx;omega),Option.none_or]
  exact A0K (hT 0) hi (A3t 8)
 | 1,_ =>
  rw[O5 (l:=diffN (85+24*0) _ _ _) (fun x hx=>by have:=i0 x hx;omega),Option.or_none]
  exact A0K (hT 1) hi (A3t 8)
theorem sureP_else(hT:∀k,(T' k).length=1024){j:Int}(h0:j≠0)(h1:¬(85<=j/\j<93))(h2:¬(109<=j/\j<117)):lastP (sureP hk n M T T' ps) j=lastP ps j:=by
 have i0:=T3 (o:=85+24*0) (a:=T 0) (hT 0) (A3t 8)
 have i1:=T3 (o:=85+24*1) (a:=T 1) (hT 1) (A3t 8)
 unfold sureP
 rw[M5,if_neg (by dsimp only;omega),A1W,forP_two,A1W,A3q,O5 (l:=diffN (85+24*0) _ _ _) (fun x hx=>by have:=i0 x hx;omega),O5 (l:=diffN (85+24*1) _ _ _) (fun x hx=>by have:=i1 x hx;omega)]
 rfl
theorem A2T(hps:blkP ps)(hM:M.length=728)(hT:∀k,(T' k).length=1024):inP 117 (sureP hk n M T T' ps):=by
 have i0:=T3 (o:=85+24*0) (a:=T 0) (hT 0) (A3t 8)
 have i1:=T3 (o:=85+24*1) (a:=T 1) (hT 1) (A3t 8)
 have lh:=A0A hk n (B:=(sureM M T').take 88) (by rw[A3s,sureM_len hM hT];omega)
 intro x hx
 unfold sureP at hx
 rw[forP_two] at hx
 simp only[A3Y,A4p,A3q] at hx
 rcases hx with (hx|hx|hx)|rfl
 ·have:=hps x hx;omega
 ·have:=i0 x hx;omega
 ·have:=i1 x hx;omega
 ·exact⟨by dsimp only;omega,by dsimp only;omega,lh⟩
theorem A2U(hM:M.length=728)(hT:∀k,(T' k).length=1024){o m:Nat}(ho:88<=o):sl (sureM M T') o m=sl M o m:=by
 have n0:=R3 (hT 0) (show 1<32 by omega)
 have n1:=R3 (hT 1) (show 1<32 by omega)
 have l2:=Y6 hM hT (A3t 2)
 have hr:=P9 (forM M T' 2)
 have e1:(owL M (32*0) (nd (T' 0) 1)).length=728:=by rw[K0 E9,hM]
 unfold sureM
 rw[N0 E9 (.inr E9)]
 show sl (owL (owL M (32*0) (nd (T' 0) 1)) (32*1) (nd (T' 1) 1)) o m=_
 rw[N0 E9 (.inr E9),N0 E9 (.inr E9)]
theorem sureM_root(hM:M.length=728)(hT:∀k,(T' k).length=1024){k:Nat}(hk2:k<2):sl (sureM M T') (32*k) 32=nd (T' k) 1:=by
 have n0:=R3 (hT 0) (show 1<32 by omega)
 have n1:=R3 (hT 1) (show 1<32 by omega)
 have l2:=Y6 hM hT (A3t 2)
 have hr:=P9 (forM M T' 2)
 have e1:(owL M (32*0) (nd (T' 0) 1)).length=728:=by rw[K0 E9,hM]
 unfold sureM
 rw[N0 E9 (.inl E9)]
 show sl (owL (owL M (32*0) (nd (T' 0) 1)) (32*1) (nd (T' 1) 1)) (32*k) 32=_
 match k,hk2 with
 | 0,_=>rw[N0 E9 (.inl E9),A0v n0 E9]
 | 1,_=>rw[A0v n1 E9]
theorem restD_of{M M':List UInt8}(h:sl M 88 512=sl M' 88 512):restD M=restD M':=by unfold restD;rw[h]
theorem sureM_rest(hM:M.length=728)(hT:∀k,(T' k).length=1024):restD (sureM M T')=sl (sureM M T') 64 24:=by
 have l2:=Y6 hM hT (A3t 2)
 have hr:=P9 (forM M T' 2)
 have e:restD (sureM M T')=restD (forM M T' 2):=restD_of (by unfold sureM;rw[N0 E9 (.inr E9)])
 rw[e]
 unfold sureM
 rw[A0v hr E9]
end
theorem A1x{X:List UInt8}{n:Nat}(hX:X.length=128*n){j:Int}(hj:j<5\/5+(n:Int)<=j):lastP (logP X n) j=none:=O5 fun x hx=>by
 have:=logP_in hX (A3t n) x hx
 omega
section
variable{su:List UInt8}{N b:Nat}
theorem inP_shift{l:List Pt}(hb:b+117<=N)(hl:inP 117 l):inP N (shiftP (b:Int) l):=fun y hy=>by
 obtain⟨x,hx,rfl⟩:=A3C.1 hy
 have:=hl x hx
 exact⟨by dsimp only;omega,by dsimp only;omega,this.2.2⟩
theorem cel_put(hs:su.length=128*N)(hb:b+117<=N){l:List Pt}(hl:inP 117 l){j:Nat}(hj:j<117):celX (applyP su (shiftP (b:Int) l)) (b+j)=((lastP l (j:Int)).map (·.2)).getD (celX su (b+j)):=by
 rw[A0p hs (inP_shift hb hl) E9,show ((b+j:Nat):Int)=(b:Int)+(j:Int) by push_cast;rfl,lastP_shift,Option.map_map]
 rfl
theorem cel_out(hs:su.length=128*N)(hb:b+117<=N){l:List Pt}(hl:inP 117 l){j:Nat}(hj:j<b\/b+117<=j)(hN:j<N):celX (applyP su (shiftP (b:Int) l)) j=celX su j:=by
 rw[A0p hs (inP_shift hb hl) hN,O5]
 ·rfl
 ·intro y hy
  obtain⟨x,hx,rfl⟩:=A3C.1 hy
  have:=hl x hx
  dsimp only
  omega
theorem A1N(hs:su.length=128*N)(hb:b+117<=N){l:List Pt}(hl:inP 117 l):(applyP su (shiftP (b:Int) l)).length=128*N:=Z8 hs (inP_shift hb hl)
theorem A2J{X:List UInt8}{n:Nat}(hX:X.length=128*n)(hn:n<=64):inP 117 (logP X n):=fun x hx=>by
 have:=logP_in hX (A3t n) x hx
 omega
end
structure Inv(su:List UInt8)(N b:Nat)(hk wk:List UInt8)(ct:Nat)(M:List UInt8)(T U:Nat->List UInt8):Prop where
 slen:su.length=128*N
 fit:b+117<=N
 mlen:M.length=728
 tlen:∀k,(T k).length=1024
 cnt:ct<=1000000000
 head:celX su b=headC hk ct (M.take 88)
 rest:restD M=sl M 64 24
 roots:∀k,k<2->sl M (32*k) 32=nd (T k) 1
 keys:∀k,k<2->sl M (600+64*k) 64=U k
 slots:∀k,k<4->celX su (b+(1+k))=sl M (88+128*k) 128
 trees:∀k i,k<2->i<8->celX su (b+(85+24*k+i))=celX (T k) i
 wrap:∀k,k<2->sl M (88+128*k) 128=wrapV wk (U k)++zs 56
 wlen:wk.length=32
section
variable{su:List UInt8}{N b:Nat}{hk wk lk:List UInt8}{ct:Nat}{M:List UInt8}{T T' U:Nat->List UInt8}{ps R:List Pt}{X:List UInt8}{n:Nat}
theorem A0Z(hs:su.length=128*N)(hb:b+117<=N)(hM:M.length=728)(hT:∀k,(T' k).length=1024)(hps:blkP ps)(hR:IsMerge (sureP hk (ct+1) M T T' ps) R)(hX:X.length=128*n)(hn:n<=64){j:Nat}(hj:j<117) :
  celX (applyP (applyP su (shiftP (b:Int) (logP X n))) (shiftP (b:Int) R)) (b+j)=((lastP (sureP hk (ct+1) M T T' ps) (j:Int)).map (·.2)).getD (((lastP (logP X n) (j:Int)).map (·.2)).getD (celX su (b+j))):=by
 rw[cel_put (A1N hs hb (A2J hX hn)) hb (A0d hR (A2T hps hM hT)) hj,cel_put hs hb (A2J hX hn) hj,lastP_merge hR]
theorem commit_len(hs:su.length=128*N)(hb:b+117<=N)(hM:M.length=728)(hT:∀k,(T' k).length=1024)(hps:blkP ps)(hR:IsMerge (sureP hk (ct+1) M T T' ps) R)(hX:X.length=128*n)(hn:n<=64):(applyP (applyP su (shiftP (b:Int) (logP X n))) (shiftP (b:Int) R)).length=128*N :=
 A1N (A1N hs hb (A2J hX hn)) hb (A0d hR (A2T hps hM hT))
theorem Inv.commit(h:Inv su N b hk wk ct M T U)(hct:ct<1000000000)(hT:∀k,(T' k).length=1024)(hps:blkP ps)(hR:IsMerge (sureP hk (ct+1) M T T' ps) R)(hX:X.length=128*n)(hn:n<=64) :
  Inv (applyP (applyP su (shiftP (b:Int) (logP X n))) (shiftP (b:Int) R)) N b hk wk (ct+1) (sureM M T') T' U where
 slen:=commit_len h.slen h.fit h.mlen hT hps hR hX hn
 fit:=h.fit
 mlen:=sureM_len h.mlen hT
 tlen:=hT
 cnt:=hct
 head:=by
  have:=A0Z h.slen h.fit h.mlen hT hps hR hX hn (j:=0) E9
  rw[show ((0:Nat):Int)=0 from rfl,sureP_0] at this
  exact this
 rest:=sureM_rest h.mlen hT
 roots:=fun k hk=>sureM_root h.mlen hT hk
 keys:=fun k hk=>by rw[A2U h.mlen hT E9];exact h.keys k hk
 slots:=fun k hk=>by
  rw[A0Z h.slen h.fit h.mlen hT hps hR hX hn (j:=1+k) E9,sureP_else hT E9 E9 E9,O5 (l:=ps) (fun x hx=>by have:=hps x hx;omega),A1x hX (.inl E9),A2U h.mlen hT E9]
  exact h.slots k hk
 trees:=fun k i hk hi=>by
  have e:((85+24*k+i:Nat):Int)=((85+24*k:Nat):Int)+(i:Int):=by push_cast;rfl
  rw[A0Z h.slen h.fit h.mlen hT hps hR hX hn (j:=85+24*k+i) E9,A1x hX (.inr E9),e]
  show ((lastP _ _).map _).getD (celX su (b+(85+24*k+i)))=_
  rw[h.trees k i hk hi]
  exact sureP_tree hps hT hk hi
 wrap:=fun k hk=>by rw[A2U h.mlen hT E9];exact h.wrap k hk
 wlen:=h.wlen
theorem block_commit(hs:su.length=128*N)(hb:b+117<=N)(hM:M.length=728)(hT:∀k,(T' k).length=1024)(hps:blkP ps)(hR:IsMerge (sureP hk (ct+1) M T T' ps) R)(hX:X.length=128*n)(hn:n<=64){j:Nat}(h1:69<=j/\j<85\/93<=j/\j<109) :
  celX (applyP (applyP su (shiftP (b:Int) (logP X n))) (shiftP (b:Int) R)) (b+j)=((lastP ps (j:Int)).map (·.2)).getD (celX su (b+j)):=by
 rw[A0Z hs hb hM hT hps hR hX hn E9,sureP_else hT E9 E9 E9,A1x hX (.inr E9)]
 rfl
theorem headC_is(key:List UInt8){N:Nat}(hN:N<=9223372036854775807){B:List UInt8}(hB:B.length=88):cntL (headC key N B)=(N:Int)/\restL (headC key N B)=B/\tagL key ((headC key N B).take 96)=(headC key N B).drop 96:=by
 have lT:=headT_len N hB
 have e8:(headC key N B).take 8=beB N 8:=by
  unfold headC headT
  rw[A3K,A4x (H6 _ _)]
 refine⟨?_,?_,?_⟩
 ·unfold cntL
  rw[e8]
  have h1:beN (beB N 8)=N % 256 ^ 8:=beN_beB N 8
  have h3:(256:Nat) ^ 8=18446744073709551616:=by decide +kernel
  rw[h1,h3]
  unfold wrap64
  omega
 ·unfold restL
  have:(headC key N B).drop 8=B++tagL key (headT N B):=by
   unfold headC headT
   rw[A3K,A5s (H6 _ _)]
  rw[this,A4x hB]
 ·unfold headC
  rw[A4x lT,A5s lT]
theorem Inv.head_is(h:Inv su N b hk wk ct M T U):cntL (celX su b)=(ct:Int)/\restL (celX su b)=M.take 88/\tagL hk ((celX su b).take 96)=(celX su b).drop 96:=by
 rw[h.head]
 exact headC_is hk (by have:=h.cnt;omega) (by rw[A3s,h.mlen];rfl)
theorem sl_add(M:List UInt8)(o n m:Nat):sl M o (n+m)=sl M o n++sl M (o+n) m:=by unfold sl;rw[A5C,A5i]
theorem two_cells(i:Nat):sl su (128*i) 256=celX su i++celX su (i+1):=by
 rw[show 256=128+128 from rfl,sl_add,P3,P3]
 congr 2
theorem Inv.slots2(h:Inv su N b hk wk ct M T U):sl su (128*(b+1)) 256=sl M 88 256/\sl su (128*(b+3)) 256=sl M 344 256:=by
 have e0:=h.slots 0 E9
 have e1:=h.slots 1 E9
 have e2:=h.slots 2 E9
 have e3:=h.slots 3 E9
 constructor
 ·rw[two_cells,show b+1=b+(1+0) by omega,e0,show b+(1+0)+1=b+(1+1) by omega,e1,show 256=128+128 from rfl,sl_add]
 ·rw[two_cells,show b+3=b+(1+2) by omega,e2,show b+(1+2)+1=b+(1+3) by omega,e3,show 256=128+128 from rfl,sl_add]
theorem Inv.ulen(h:Inv su N b hk wk ct M T U){k:Nat}(hk2:k<2):(U k).length=64:=by rw[<-h.keys k hk2,sl_len (by rw[h.mlen];omega)]
theorem A1n{M A:List UInt8}{o:Nat}{x:List UInt8}(hA:A.length=M.length)(ho:o+x.length<=M.length)(hx:sl M o x.length=x){k:Nat}(hk:A[k]?=M[k]?\/(o<=k/\k<o+x.length)):(owL A o x)[k]?=M[k]?:=by
 rw[owL_at E9]
 split
 ·next h =>
  rw[<-hx,A0w,if_pos E9,show o+(k - o)=k by omega]
 ·next h=>exact hk.resolve_right h
theorem Inv.loaded(h:Inv su N b hk wk ct M T U){M0:List UInt8}(hM0:M0.length=728):(∀k,k<600->(loadH su b M0)[k]?=M[k]?)/\loadK (loadH su b M0) U 2=M:=by
 obtain⟨_,h2,_⟩:=h.head_is
 obtain⟨h3,h4⟩:=h.slots2
 have hm:=h.mlen
 have l1:(M.take 88).length=88:=by rw[A3s];omega
 have l2:=sl_len (M:=M) (o:=88) (n:=256) E9
 have l3:=sl_len (M:=M) (o:=344) (n:=256) E9
 have u0:=h.ulen (k:=0) E9
 have u1:=h.ulen (k:=1) E9
 have k0:=h.keys 0 E9
 have k1:=h.keys 1 E9
 have lA:(owL M0 0 (M.take 88)).length=728:=by rw[K0 E9,hM0]
 have lB:(owL (owL M0 0 (M.take 88)) 88 (sl M 88 256)).length=728:=by rw[K0 E9,lA]
 have eH:loadH su b M0=owL (owL (owL M0 0 (M.take 88)) 88 (sl M 88 256)) 344 (sl M 344 256):=by unfold loadH;rw[h2,h3,h4]
 have lC:(loadH su b M0).length=728:=by rw[eH,K0 E9,lB]
 have lD:(owL (loadH su b M0) 600 (U 0)).length=728:=by rw[K0 E9,lC]
 have hp:∀k,k<600->(loadH su b M0)[k]?=M[k]?:=fun k hk=>by
  rw[eH]
  refine A1n E9 E9 (by rw[l3]) ?_
  by_cases h6:344<=k
  ·exact .inr E9
  refine .inl (A1n E9 E9 (by rw[l2]) ?_)
  by_cases h7:88<=k
  ·exact .inr E9
  exact .inl (A1n E9 E9 (by rw[l1];unfold sl;rw[A4Y]) (.inr E9))
 refine⟨hp,?_⟩
 show owL (owL (loadH su b M0) 600 (U 0)) 664 (U 1)=M
 refine A5d fun k=>?_
 by_cases h9:728<=k
 ·rw[A4C (by rw[K0 E9];omega),A4C E9]
 refine A1n E9 E9 (by rw[u1];exact k1) ?_
 by_cases h8:664<=k
 ·exact .inr E9
 refine .inl (A1n E9 E9 (by rw[u0];exact k0) ?_)
 by_cases h7:600<=k
 ·exact .inr E9
 exact .inl (hp k E9)
theorem Inv.loadOk(h:Inv su N b hk wk ct M T U){M0:List UInt8}(hM0:M0.length=728):LoadOk su b hk wk U M0:=by
 obtain⟨h1,h2,h3⟩:=h.head_is
 obtain⟨hp,_⟩:=h.loaded hM0
 refine⟨⟨by omega,h3⟩,?_,fun k hk2=>?_⟩
 ·have e:restD (loadH su b M0)=restD M:=restD_of (A5d fun k=>by
   rw[A0w,A0w]
   split
   ·exact hp _ E9
   ·rfl)
  rw[e,h2,h.rest]
  unfold sl
  rw[List.drop_take]
 ·have hu:=h.ulen hk2
  have hw:=h.wrap k hk2
  have lw:=A0x (key:=wk) (l:=U k) (.inr h.wlen) E9 E9
  have hc:celX su (b+1+k)=wrapV wk (U k)++zs 56:=by rw[show b+1+k=b+(1+k) by omega,h.slots k E9,hw]
  have e72:(celX su (b+1+k)).take 72=wrapV wk (U k):=by rw[hc,A4x E9]
  have hun:=unwrap_wrap (key:=wk) (l:=U k) (.inr h.wlen) E9 E9
  rw[e72,hun]
  exact⟨rfl,rfl,hc.symm,hu⟩
theorem Inv.treesOf(h:Inv su N b hk wk ct M T U){k:Nat}(hk2:k<2):sl su (128*(b+85+24*k)) 1024=T k:=by
 have hf:=h.fit
 have hs:=h.slen
 refine cells_ext (N:=8) (by rw[sl_len E9]) (h.tlen k) fun i hi=>?_
 rw[<-h.trees k i hk2 hi,P3,P3,sl_sl E9]
 congr 1;omega
end
end
section
attribute [local irreducible] shaL tagL
theorem sl_zs{n o m:Nat}(h:o+m<=n):sl (zs n) o m=zs m:=by
 unfold sl zs
 rw[A4o,List.take_replicate]
 congr 1;omega
theorem celX_zs{n i:Nat}(h:128*i+128<=n):celX (zs n) i=zs 128:=by rw[P3];exact sl_zs h
theorem lastP_range(f:Nat->List UInt8):∀{n j:Nat},j<n->lastP ((List.range n).map fun (i:Nat)=>((i:Int),f i)) (j:Int)=some ((j:Int),f j)
 | 0,j,h=>absurd h E9
 | n+1,j,h=>by
  rw[List.range_succ,A3J]
  show lastP (_++[((n:Int),f n)]) _=_
  rw[M5]
  by_cases hi:j=n
  ·subst hi;rw[if_pos rfl]
  ·rw[if_neg (by dsimp only;omega)]
   exact lastP_range f E9
def fmtC(hc s0 s1:List UInt8)(i:Nat):List UInt8:=if i=0 then hc else if i=1 then s0 else if i=2 then s1 else zs 128
def fmtP(hc s0 s1:List UInt8):List Pt:=(List.range 117).map fun (i:Nat)=>((i:Int),fmtC hc s0 s1 i)
theorem fmtC_len{hc s0 s1:List UInt8}(h:hc.length=128)(h0:s0.length=128)(h1:s1.length=128)(i:Nat):(fmtC hc s0 s1 i).length=128:=by
 unfold fmtC
 split
 ·exact h
 split
 ·exact h0
 split
 ·exact h1
 ·exact zs_len 128
theorem fmtP_in{hc s0 s1:List UInt8}(h:hc.length=128)(h0:s0.length=128)(h1:s1.length=128):inP 117 (fmtP hc s0 s1):=fun x hx=>by
 obtain⟨i,hi,rfl⟩:=A3C.1 hx
 have:=A4m.1 hi
 exact⟨by dsimp only;omega,by dsimp only;omega,fmtC_len h h0 h1 i⟩
def fmtM1(s0 s1:List UInt8):List UInt8:=owL (owL (zs 728) 88 s0) 216 s1
def fmtM(s0 s1:List UInt8):List UInt8:=owL (fmtM1 s0 s1) 64 (restD (fmtM1 s0 s1))
def fmtL(s0 s1:List UInt8)(U:Nat->List UInt8):List UInt8:=owL (owL (fmtM s0 s1) 600 (U 0)) 664 (U 1)
section
variable{s0 s1:List UInt8}(h0:s0.length=128)(h1:s1.length=128)
include h0 h1
theorem fmtM1_len:(fmtM1 s0 s1).length=728:=by
 have e:(owL (zs 728) 88 s0).length=728:=by rw[K0 E1,zs_len]
 unfold fmtM1
 rw[K0 E9,e]
theorem A2V:(fmtM s0 s1).length=728:=by
 have e:=fmtM1_len h0 h1
 have hr:=P9 (fmtM1 s0 s1)
 unfold fmtM
 rw[K0 E9,e]
theorem fmtM1_sl{o n:Nat}(h:o+n<=88\/(344<=o/\o+n<=728)):sl (fmtM1 s0 s1) o n=zs n:=by
 have e:(owL (zs 728) 88 s0).length=728:=by rw[K0 E1,zs_len]
 unfold fmtM1
 rw[N0 E9 E9,N0 E1 E9,sl_zs E9]
theorem fmtM1_s0:sl (fmtM1 s0 s1) 88 128=s0:=by
 have e:(owL (zs 728) 88 s0).length=728:=by rw[K0 E1,zs_len]
 unfold fmtM1
 rw[N0 E9 E9,A0v h0 E1]
theorem fmtM1_s1:sl (fmtM1 s0 s1) 216 128=s1:=by
 have e:(owL (zs 728) 88 s0).length=728:=by rw[K0 E1,zs_len]
 unfold fmtM1
 rw[A0v h1 E9]
theorem A0n{o n:Nat}(h:o+n<=64\/88<=o):sl (fmtM s0 s1) o n=sl (fmtM1 s0 s1) o n:=by
 have e:=fmtM1_len h0 h1
 have hr:=P9 (fmtM1 s0 s1)
 unfold fmtM
 exact N0 E9 E9
theorem fmtL_ne{U:Nat->List UInt8}(hU:∀k,k<2->(U k).length=64){o n:Nat}(h:o+n<=600):sl (fmtL s0 s1 U) o n=sl (fmtM s0 s1) o n:=by
 have e:=A2V h0 h1
 have u0:=hU 0 E9
 have u1:=hU 1 E9
 have e2:(owL (fmtM s0 s1) 600 (U 0)).length=728:=by rw[K0 E9,e]
 unfold fmtL
 rw[N0 E9 E9,N0 E9 E9]
theorem Inv.made{su:List UInt8}{N b:Nat}{hk wk:List UInt8}{U:Nat->List UInt8}(hs:su.length=128*N)(hb:b+117<=N)(hw:wk.length=32)(hU:∀k,k<2->(U k).length=64)(e0:s0=wrapV wk (U 0)++zs 56)(e1:s1=wrapV wk (U 1)++zs 56){hc:List UInt8}(hhc:hc=headC hk 1 ((fmtM s0 s1).take 88)) :
  Inv (applyP su (shiftP (b:Int) (fmtP hc s0 s1))) N b hk wk 1 (fmtL s0 s1 U) (fun _=>zs 1024) U/\∀j,3<=j->j<117->celX (applyP su (shiftP (b:Int) (fmtP hc s0 s1))) (b+j)=zs 128:=by
 have lM:=A2V h0 h1
 have lM1:=fmtM1_len h0 h1
 have u0:=hU 0 E9
 have u1:=hU 1 E9
 have e2:(owL (fmtM s0 s1) 600 (U 0)).length=728:=by rw[K0 E9,lM]
 have lL:(fmtL s0 s1 U).length=728:=by unfold fmtL;rw[K0 E9,e2]
 have lh:hc.length=128:=by rw[hhc];exact A0A hk 1 (by rw[A3s,lM];rfl)
 have hr:=P9 (fmtM1 s0 s1)
 have hin:=fmtP_in lh h0 h1
 have hcel:∀j,j<117->celX (applyP su (shiftP (b:Int) (fmtP hc s0 s1))) (b+j)=fmtC hc s0 s1 j:=fun j hj=>by
  rw[cel_put hs hb hin hj]
  unfold fmtP
  rw[lastP_range _ hj];rfl
 have hz:∀j,3<=j->j<117->celX (applyP su (shiftP (b:Int) (fmtP hc s0 s1))) (b+j)=zs 128:=fun j h3 hj=>by
  rw[hcel j hj]
  unfold fmtC
  rw[if_neg E9,if_neg E9,if_neg E9]
 have hlow:∀{o n:Nat},o+n<=600->sl (fmtL s0 s1 U) o n=sl (fmtM s0 s1) o n:=fun h=>fmtL_ne h0 h1 hU h
 have ht:(fmtL s0 s1 U).take 88=(fmtM s0 s1).take 88:=hlow (o:=0) (n:=88) E9
 have s_0:sl (fmtL s0 s1 U) 88 128=s0:=by rw[hlow E9,A0n h0 h1 (.inr E9),fmtM1_s0 h0 h1]
 have s_1:sl (fmtL s0 s1 U) 216 128=s1:=by rw[hlow E9,A0n h0 h1 (.inr E9),fmtM1_s1 h0 h1]
 refine⟨⟨A1N hs hb hin,hb,lL,fun _=>zs_len 1024,by omega,?_,?_,fun k hk2=>?_,fun k hk2=>?_,fun k hk2=>?_,fun k i hk2 hi=>?_,fun k hk2=>?_,hw⟩,hz⟩
 ·rw[ht,<-hhc]
  exact hcel 0 E9
 ·have e3:restD (fmtL s0 s1 U)=restD (fmtM1 s0 s1):=restD_of (by rw[hlow E9,A0n h0 h1 (.inr E9)])
  rw[e3,hlow E9]
  unfold fmtM
  rw[A0v hr E9]
 ·rw[hlow E9,A0n h0 h1 (.inl E9),fmtM1_sl h0 h1 (.inl E9),nd_zs E9]
 ·unfold fmtL
  match k,hk2 with
  | 0,_=>rw[N0 E9 E9,A0v u0 E9]
  | 1,_=>rw[A0v u1 E9]
 ·match k,hk2 with
  | 0,_=>exact(hcel 1 E9).trans s_0.symm
  | 1,_=>exact(hcel 2 E9).trans s_1.symm
  | 2,_=>rw[hz _ E9 E9,hlow E9,A0n h0 h1 (.inr E9),fmtM1_sl h0 h1 (.inr E9)]
  | 3,_=>rw[hz _ E9 E9,hlow E9,A0n h0 h1 (.inr E9),fmtM1_sl h0 h1 (.inr E9)]
 ·rw[hz _ E9 E9,celX_zs E9]
 ·match k,hk2 with
  | 0,_=>exact s_0.trans e0
  | 1,_=>exact s_1.trans e1
end
end
end
section
open Go.ChangeShapes Go.WideShapes Go.ChangeAt Go.RowKit
attribute [local irreducible] wpList wpListIn Oper.quietAt wpM
section
attribute [local irreducible] shaL
def secB(key:List UInt8)(g1 g2 g3:Nat)(s1 s2 s3:List Value):List Blk:=[(g3,((secW key).map bv++s3).toArray,5),(g2,((secL key).map bv++s2).toArray,5),(g1,((secH key).map bv++s1).toArray,5)]
theorem sec_st(key:List UInt8)(hk:key.length=32)(kv:Value)(w0:World)(hkv:BytesAt w0 kv key) :
  Calls Tryz.prog 81 #[kv] w0 fun e w'=>∃g1 g2 g3 s1 s2 s3,e=.returned (.agg #[.slice (some ⟨g1,0,none⟩) 32 32,.slice (some ⟨g2,0,none⟩) 32 32,.slice (some ⟨g3,0,none⟩) 32 32])/\St w0 w' (secB key g1 g2 g3 s1 s2 s3):=by
 have hS:=St.start w0
 have hne:key≠[]:=fun h=>by rw[h] at hk;cases hk
 have hd:=fun w lab hl h=>derive_any key lab hne E9 hl kv w h
 have e1:tagL key (strT [104,101,97,100])=secH key:=rfl
 have e2:tagL key (strT [108,111,103])=secL key:=rfl
 have e3:tagL key (strT [119,114,97,112])=secW key:=rfl
 have d1:=fun w=>hd w [104,101,97,100] E8
 have d2:=fun w=>hd w [108,111,103] E8
 have d3:=fun w=>hd w [119,114,97,112] E8
 rw[e1] at d1
 rw[e2] at d2
 rw[e3] at d3
 clear hd e1 e2 e3
 unfold secB
 obtain⟨S1,hS1⟩:∃x,secH key=x:=⟨_,rfl⟩
 obtain⟨S2,hS2⟩:∃x,secL key=x:=⟨_,rfl⟩
 obtain⟨S3,hS3⟩:∃x,secW key=x:=⟨_,rfl⟩
 rw[hS1] at d1 |-
 rw[hS2] at d2 |-
 rw[hS3] at d3 |-
 clear hS1 hS2 hS3
 go_enter Tryz.func81,Tryz.ntmps81
 refine Zdsm ?_;clear hS;intro _ b w hS _ _
 refine F7 stp_list F1 F1 F1 F1 F1 E5 (d1 _ (hkv.below hS.below)) ?_
 rintro e w1 ⟨g1,p1,rfl,q1,q2,q3⟩
 refine⟨_,rfl,?_⟩
 replace hS:=own_st.new hS q3 q1 q2
 clear q1 q2 q3 d1
 refine F2 ?_
 refine Zdsm ?_;show _
 refine F7 stp_list F1 F1 F1 F1 F1 E5 (d2 _ (hkv.below hS.below)) ?_
 rintro e w1 ⟨g2,p2,rfl,q1,q2,q3⟩
 refine⟨_,rfl,?_⟩
 replace hS:=own_st.new hS q3 q1 q2
 clear q1 q2 q3 d2
 refine F2 ?_
 refine Zdsm ?_;show _
 refine F7 stp_list F1 F1 F1 F1 F1 E5 (d3 _ (hkv.below hS.below)) ?_
 rintro e w1 ⟨g3,p3,rfl,q1,q2,q3⟩
 refine⟨_,rfl,?_⟩
 replace hS:=own_st.new hS q3 q1 q2
 clear q1 q2 q3 d3
 refine F2 ?_
 refine Zdsm ?_;clear hS;intro w hS
 have hS2:=own_st.erase 3 hS
 simp only[A4c,A4b] at hS2
 exact G2 (n:=3) Tryz.results81 E7 (.inl rfl) _ _ _ _ rfl rfl (own_st.blk 3 hS rfl) F1 ⟨g1,g2,g3,p1,p2,p3,rfl,hS2⟩
theorem Own.takes{B:Nat}{H:World->List Blk->Prop}(hH:Own B H){w W:World}{L:List Blk}(h:H w L)(h0:H W L):∀(F:List Blk),(F.map (·.1)).Nodup->(∀x∈F,W.heap.size<=x.1/\Go.Proofs.YtlfbfbbdpcihfaaGreat.blk w x.1=some (.cells x.2.1 x.2.2 (0,0)))->H w (F++L)
 | [],_,_=>h
 | (b,cs,t)::F,hd,hF=>by
  simp only[A3X,A4a] at hd
  have h1:=Own.takes hH h h0 F hd.2 (fun x hx=>hF x (A3l _ hx))
  have hf:=hF (b,cs,t) (A3m ..)
  refine hH.add h1 h0 hf.1 (fun hm=>?_) hf.2
  replace hm:b∈(F++L).map (·.1):=hm
  rw[A3J,A3Y] at hm
  rcases hm with hm|hm
  ·exact hd.1 hm
  ·have:=hH.lt h0 hm
   have:=hf.1
   dsimp only at this
   omega
def PhS(B:Nat)(key:List UInt8)(v:Value)(w:World):Prop:=∃g1 g2 g3 s1 s2 s3,v=.agg #[.slice (some ⟨g1,0,none⟩) 32 32,.slice (some ⟨g2,0,none⟩) 32 32,.slice (some ⟨g3,0,none⟩) 32 32]/\((secB key g1 g2 g3 s1 s2 s3).map (·.1)).Nodup/\∀x∈secB key g1 g2 g3 s1 s2 s3,B<=x.1/\blk w x.1=some (.cells x.2.1 x.2.2 (0,0))
theorem phS_mon{B:Nat}{key:List UInt8}:MV.Mon (PhS B key):=fun _ _ _ ⟨g1,g2,g3,s1,s2,s3,h1,h2,h3⟩ hb=>⟨g1,g2,g3,s1,s2,s3,h1,h2,fun x hx=>⟨(h3 x hx).1,T8 (h3 x hx).2 hb⟩⟩
theorem phS_call{P:Program}{f:FuncId}{args:Array Value}{w w':World}{key:List UInt8}(hc:Calls P f args w' fun e w''=>∃g1 g2 g3 s1 s2 s3,e=.returned (.agg #[.slice (some ⟨g1,0,none⟩) 32 32,.slice (some ⟨g2,0,none⟩) 32 32,.slice (some ⟨g3,0,none⟩) 32 32])/\St w' w'' (secB key g1 g2 g3 s1 s2 s3))(hB:Cls w w'):Calls P f args w' fun e w''=>∃v,e=.returned v/\(PhS w.heap.size key v w''/\Below w'.heap.size w' w'') :=
 hc.mono fun e w'' ⟨g1,g2,g3,s1,s2,s3,h1,h2⟩=>⟨_,h1,⟨g1,g2,g3,s1,s2,s3,rfl,h2.2.2,fun x hx=>⟨A3T hB.size (h2.2.1 x hx).1,(h2.2.1 x hx).2⟩⟩,h2.below⟩
section
variable{rd:Rdr}{w00 w0:World}{g:G4}{N:Nat}{su:List UInt8}{co:List Int}{L:List Blk}
theorem sure_fit(hrd:RdCel rd){V b:Nat}{cn:Int}{hv lv kv:Value}{hk lk:List UInt8}{ct:Nat}{M:List UInt8}{T T':Nat->List UInt8}{t0 t1:Value}{ty:TypeId}{ps R:List Pt}(hM:M.length=728)(hb:b+117<=N)(hcn:0<=cn/\cn<(co.length:Int))(hct:ct<=1000000000)(hco:co.getD cn.toNat 0=(ct:Int))(hps:blkP ps)(hT:∀k,(T' k).length=1024)(hR:IsMerge (sureP hk (ct+1) M T T' ps) R)(h56:R.length<=56)(w:World)(L':List Blk)(cv pv:Value)(hV:(V,vC g.P cn (b:Int) hv lv kv ct M t0 t1 false,ty)∈L')(hD:Dk rd w00 g Fon N su [] co w L')(hc:CellsM L' cv (encL lk ((ct+1:Nat):Int) R) (R.length+2))(hp:PutsM L' pv R) :
  Calls Tryz.prog 204 #[.pointer (some ⟨V,0,none⟩),cv,pv,.int .i64 ((ct+1:Nat):Int)] w fun e w'=>e=.returned (if true then .nilIface else .iface 48 (.int .i64 5))/\Dk rd w00 g Fon N (applyP (applyP su (shiftP (b:Int) (logP (encL lk ((ct+1:Nat):Int) R) (R.length+2)))) (shiftP (b:Int) R)) [] (co.set cn.toNat ((ct+1:Nat):Int)) w' L':=by
 have h:=sure_on hrd hD hM hV E9 hcn ((ct+1:Nat):Int) (by rw[hco];push_cast;omega) ⟨by push_cast;omega,by push_cast;omega⟩ (encL lk ((ct+1:Nat):Int) R) (R.length+2) E9 cv hc R pv hp (A0d hR (A2T hps hM hT)) E9
 rw[if_pos rfl]
 exact h
end
end
section
attribute [local irreducible] shaL
def vZ:List Value:=[.pointer none,.int .i64 0,.int .i64 0,.slice none 0 0,.slice none 0 0,.slice none 0 0,.int .i64 0]++((zs 728).map bv++[.slice none 0 0,.slice none 0 0,.bool false])
instance(priority:=2000) instVe5_1:StT Tryz.prog 144 [(0,3),(3,3),(6,731),(737,1)] vZ:=⟨by kernel_rfl⟩
section
variable{P:Nat}{cn bs:Int}{h l k:Value}
theorem vault_fill:FillS ([(0,3),(3,3),(6,731),(737,1)].toArray[·]?) vZ [(0,.agg #[.pointer (some ⟨P,0,none⟩),.int .i64 cn,.int .i64 bs]),(1,.agg #[h,l,k])] ([.pointer (some ⟨P,0,none⟩),.int .i64 cn,.int .i64 bs,h,l,k,.int .i64 0]++((zs 728).map bv++[.slice none 0 0,.slice none 0 0,.bool false])) :=
 .row (off:=0) (n:=3) rfl rfl (by unfold vZ;simp[zs_len]) rfl (.row (off:=3) (n:=3) rfl rfl (by unfold vZ;simp[zs_len]) rfl .nil)
theorem vault_built:Tryz.prog.built 144 [(0,.agg #[.pointer (some ⟨P,0,none⟩),.int .i64 cn,.int .i64 bs]),(1,.agg #[h,l,k])]=some (vC P cn bs h l k 0 (zs 728) (.slice none 0 0) (.slice none 0 0) false) :=
 A0e (pl:=[(0,3),(3,3),(6,731),(737,1)]) (z:=vZ) E5 (A0r vault_fill)
end
theorem co_same{co:List Int}{i:Nat}{x:Int}(hi:i<co.length)(h:co.getD i 0=x):co.set i x=co:=by
 rw[A3I,A3p hi] at h
 subst h
 exact List.set_getElem_self hi
theorem getD_set{co:List Int}{i:Nat}{x:Int}(hi:i<co.length):(co.set i x).getD i 0=x:=by
 rw[A3I,List.getElem?_set_self hi];rfl
theorem W7{L:List Blk}{g:Nat}{key:List UInt8}{sp:List Value}{t:TypeId}(hk:key.length=32)(h:(g,(key.map bv++sp).toArray,t)∈L):BytesM L (.slice (some ⟨g,0,none⟩) 32 32) key :=
 ⟨g,0,32,_,t,by rw[hk],by omega,h,fun i x hx=>by rw[A3x,A3o,A3E (by rw[A3u];exact(A3n.1 hx).1),A3N,hx];rfl⟩
def blkR(j:Nat):Prop:=69<=j/\j<85\/93<=j/\j<109
section
variable{rd:Rdr}{w00 w0:World}{g:G4}{F:Bool->Int->Bool->Prop}{N:Nat}{su:List UInt8}{l:List Pt}{co:List Int}{L:List Blk}
theorem fits_of{N:Nat}{co:List Int}{cn:Int}{b:Nat}(hcn:0<=cn/\cn<(co.length:Int))(hb:b+117<=N):fitsP N co cn (b:Int)=true:=by
 unfold fitsP
 rw[decide_eq_true hcn,decide_eq_true E9,decide_eq_true E9];rfl
end
end
end
end Go.Proofs.YtlfbfbbdpcihfaaGreat
