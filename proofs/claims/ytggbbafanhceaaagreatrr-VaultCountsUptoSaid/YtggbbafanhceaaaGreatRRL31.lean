/-
  Laws that the claims of this seat use, of several texts in one. No condition of their own.
-/
import Derived.Test.YtggbbafanhceaaaGreatRRL30
set_option maxRecDepth 100000
set_option maxHeartbeats 8000000
set_option linter.all false
namespace Go.Proofs.YtggbbafanhceaaaGreatRR
section
open Go.ChangeShapes Go.WideShapes Go.ChangeAt Go.RowKit
section
def putW(l k:List UInt8)(i:Nat):List UInt8:=l.take (8*i)++(k++l.drop (8*i+8))
def wordAt(l:List UInt8)(i:Nat):List UInt8:=(l.drop (8*i)).take 8
theorem A0Z{l:List UInt8}{i:Nat}(h:8*i+8≤l.length):(wordAt l i).length=8:=by unfold wordAt;simp;omega
theorem putW_len{l k:List UInt8}{i:Nat}(h:8*i+8≤l.length)(hk:k.length=8):(putW l k i).length=l.length:=by unfold putW;simp;omega
theorem wordAt_put{l k:List UInt8}{i:Nat}(h:8*i+8≤l.length)(hk:k.length=8):wordAt (putW l k i) i=k:=by
 have h1:(l.take (8*i)).length=8*i:=by simp;omega
 unfold wordAt putW
 rw[A5l H6,A4F H6,A4x,A4Z H6,A4B H6]
theorem putW_put{l k k':List UInt8}{i:Nat}(h:8*i+8≤l.length)(hk:k.length=8):putW (putW l k i) k' i=putW l k' i:=by
 have h1:(l.take (8*i)).length=8*i:=by simp;omega
 have h2:(l.take (8*i)++(k++l.drop (8*i+8))).drop (8*i+8)=l.drop (8*i+8):=by
  rw[←A4E,A5l G7,A4F G7,A4x]
 unfold putW
 rw[h2,A4Z H6,A4B H6]
theorem putW_self{l:List UInt8}{i:Nat}:putW l (wordAt l i) i=l:=by
 unfold putW wordAt
 rw[←A4E,←A6K,A4L]
def wStep(E:List UInt8→List UInt8)(n:Nat)(x:List UInt8 × List UInt8)(s:Nat):List UInt8 × List UInt8 :=
 (xorL ((E (x.1++wordAt x.2 (s % n))).take 8) (beB (s+1) 8),putW x.2 ((E (x.1++wordAt x.2 (s % n))).drop 8) (s % n))
def uStep(D:List UInt8→List UInt8)(n:Nat)(x:List UInt8 × List UInt8)(s:Nat):List UInt8 × List UInt8 :=
 ((D (xorL x.1 (beB (s+1) 8)++wordAt x.2 (s % n))).take 8,putW x.2 ((D (xorL x.1 (beB (s+1) 8)++wordAt x.2 (s % n))).drop 8) (s % n))
def InForm(n:Nat)(x:List UInt8 × List UInt8):Prop:=x.1.length=8∧x.2.length=8*n
theorem word_fits{n s:Nat}(hn:0<n):8*(s % n)+8≤8*n:=by have:=Nat.mod_lt s hn;omega
theorem wStep_form{E:List UInt8→List UInt8}(hE:∀x,x.length=16→(E x).length=16){n:Nat}(hn:0<n){x:List UInt8 × List UInt8}(hx:InForm n x)(s:Nat):InForm n (wStep E n x s):=by
 have hw:=word_fits (s:=s) hn
 have h1:=A0Z (l:=x.2) (i:=s % n) (by rw[hx.2];exact hw)
 have h2:=hE (x.1++wordAt x.2 (s % n)) (by rw[A4p,hx.1,h1])
 exact⟨M6 _ _ 8 (by rw[A4u,h2];rfl) (K9 _ _),by unfold wStep;rw[putW_len (by rw[hx.2];exact hw) (by rw[A4J,h2])];exact hx.2⟩
theorem uStep_form{D:List UInt8→List UInt8}(hD:∀x,x.length=16→(D x).length=16){n:Nat}(hn:0<n){x:List UInt8 × List UInt8}(hx:InForm n x)(s:Nat):InForm n (uStep D n x s):=by
 have hw:=word_fits (s:=s) hn
 have h1:=A0Z (l:=x.2) (i:=s % n) (by rw[hx.2];exact hw)
 have h0:=M6 x.1 (beB (s+1) 8) 8 hx.1 (K9 _ _)
 have h2:=hD (xorL x.1 (beB (s+1) 8)++wordAt x.2 (s % n)) (by rw[A4p,h0,h1])
 exact⟨by unfold uStep;rw[A4u,h2];rfl,by unfold uStep;rw[putW_len (by rw[hx.2];exact hw) (by rw[A4J,h2])];exact hx.2⟩
theorem u_of_w{E D:List UInt8→List UInt8}(hE:∀x,x.length=16→(E x).length=16)(hDE:∀x,x.length=16→D (E x)=x){n:Nat}(hn:0<n){x:List UInt8 × List UInt8}(hx:InForm n x)(s:Nat):uStep D n (wStep E n x s) s=x:=by
 have hw:=word_fits (s:=s) hn
 have hx1:x.1.length=8:=hx.1
 have h1:=A0Z (l:=x.2) (i:=s % n) (by rw[hx.2];exact hw)
 have hl:(x.1++wordAt x.2 (s % n)).length=16:=by rw[A4p,hx.1,h1]
 have h2:=hE _ hl
 have h3:=hDE _ hl
 have ht:((E (x.1++wordAt x.2 (s % n))).take 8).length=8:=by rw[A4u,h2];rfl
 have hd:((E (x.1++wordAt x.2 (s % n))).drop 8).length=8:=by rw[A4J,h2]
 unfold uStep
 have e1:(wStep E n x s).1=xorL ((E (x.1++wordAt x.2 (s % n))).take 8) (beB (s+1) 8):=rfl
 have e2:(wStep E n x s).2=putW x.2 ((E (x.1++wordAt x.2 (s % n))).drop 8) (s % n):=rfl
 rw[e1,e2,A2b (by rw[ht,K9]),wordAt_put (by rw[hx.2];exact hw) hd,A4L,h3,putW_put (by rw[hx.2];exact hw) hd,
  A4Z H6,A4B H6,A5l H6,A4F H6,A4x,putW_self]
def wSteps(E:List UInt8→List UInt8)(n:Nat)(x:List UInt8 × List UInt8):Nat→List UInt8 × List UInt8
 | 0=>x
 | s+1=>wStep E n (wSteps E n x s) s
def uSteps(D:List UInt8→List UInt8)(n:Nat)(x:List UInt8 × List UInt8):Nat→List UInt8 × List UInt8
 | 0=>x
 | s+1=>uSteps D n (uStep D n x s) s
theorem A1j{E:List UInt8→List UInt8}(hE:∀x,x.length=16→(E x).length=16){n:Nat}(hn:0<n){x:List UInt8 × List UInt8}(hx:InForm n x):∀s,InForm n (wSteps E n x s)
 | 0=>hx
 | s+1=>wStep_form hE hn (A1j hE hn hx s) s
theorem uSteps_form{D:List UInt8→List UInt8}(hD:∀x,x.length=16→(D x).length=16){n:Nat}(hn:0<n):∀(s:Nat){x:List UInt8 × List UInt8},InForm n x→InForm n (uSteps D n x s)
 | 0,_,hx=>hx
 | s+1,_,hx=>uSteps_form hD hn s (uStep_form hD hn hx s)
theorem A3m{E D:List UInt8→List UInt8}(hE:∀x,x.length=16→(E x).length=16)(hDE:∀x,x.length=16→D (E x)=x){n:Nat}(hn:0<n){x:List UInt8 × List UInt8}(hx:InForm n x):∀s,uSteps D n (wSteps E n x s) s=x
 | 0=>rfl
 | s+1=>by
  show uSteps D n (uStep D n (wStep E n (wSteps E n x s) s) s) s=x
  rw[u_of_w hE hDE hn (A1j hE hn hx s),A3m hE hDE hn hx s]
theorem wSteps_zero(E:List UInt8→List UInt8)(n:Nat)(x:List UInt8 × List UInt8):wSteps E n x 0=x:=rfl
theorem wSteps_succ(E:List UInt8→List UInt8)(n:Nat)(x:List UInt8 × List UInt8)(s:Nat):wSteps E n x (s+1)=wStep E n (wSteps E n x s) s:=rfl
theorem uSteps_zero(D:List UInt8→List UInt8)(n:Nat)(x:List UInt8 × List UInt8):uSteps D n x 0=x:=rfl
theorem uSteps_succ(D:List UInt8→List UInt8)(n:Nat)(x:List UInt8 × List UInt8)(s:Nat):uSteps D n x (s+1)=uSteps D n (uStep D n x s) s:=rfl
theorem wStep_of{E:List UInt8→List UInt8}{n:Nat}{a l k:List UInt8}{s:Nat}(h:E (a++wordAt l (s % n))=k):wStep E n (a,l) s=(xorL (k.take 8) (beB (s+1) 8),putW l (k.drop 8) (s % n)):=by unfold wStep;rw[h]
theorem uStep_of{D:List UInt8→List UInt8}{n:Nat}{a l k:List UInt8}{s:Nat}(h:D (xorL a (beB (s+1) 8)++wordAt l (s % n))=k):uStep D n (a,l) s=(k.take 8,putW l (k.drop 8) (s % n)):=by unfold uStep;rw[h]
attribute [irreducible] putW wordAt wStep uStep wSteps uSteps
end
section
def a6L:List UInt8:=[0xa6,0xa6,0xa6,0xa6,0xa6,0xa6,0xa6,0xa6]
def wrapX(key l:List UInt8):List UInt8 × List UInt8:=wSteps (sealV key) (l.length / 8) (a6L,l) (6*(l.length / 8))
def wrapV(key l:List UInt8):List UInt8:=(wrapX key l).1++(wrapX key l).2
def unwrapX(key l:List UInt8):List UInt8 × List UInt8:=uSteps (openV key) (l.length / 8 - 1) (l.take 8,l.drop 8) (6*(l.length / 8 - 1))
theorem A2Q{key:List UInt8}(h:key.length=16∨key.length=32):∀x,x.length=16→(sealV key x).length=16:=fun _ hx=>Z9 h hx
theorem open_len'{key:List UInt8}(h:key.length=16∨key.length=32):∀x,x.length=16→(openV key x).length=16:=fun _ hx=>openV_len h hx
theorem open_seal'{key:List UInt8}(h:key.length=16∨key.length=32):∀x,x.length=16→openV key (sealV key x)=x:=fun _ hx=>dec_enc_all (A1D h) hx
theorem wrapX_form{key l:List UInt8}(h:key.length=16∨key.length=32)(h8:l.length % 8=0)(hl:0<l.length):InForm (l.length / 8) (wrapX key l):=A1j (A2Q h) H6 (x:=(a6L,l)) ⟨rfl,by show l.length=8*(l.length / 8);omega⟩ _
theorem A1s{key l:List UInt8}(h:key.length=16∨key.length=32)(h8:l.length % 8=0)(hl:0<l.length):(wrapV key l).length=l.length+8:=by
 obtain⟨h1,h2⟩:=wrapX_form h h8 hl
 unfold wrapV
 rw[A4p,h1,h2]
 omega
theorem unwrap_wrap{key l:List UInt8}(h:key.length=16∨key.length=32)(h8:l.length % 8=0)(hl:0<l.length):unwrapX key (wrapV key l)=(a6L,l):=by
 obtain⟨h1,h2⟩:=wrapX_form h h8 hl
 have hn:(wrapV key l).length / 8 - 1=l.length / 8:=by rw[A1s h h8 hl];omega
 have ht:(wrapV key l).take 8=(wrapX key l).1:=by unfold wrapV;rw[A4Z H6,A4B H6]
 have hd:(wrapV key l).drop 8=(wrapX key l).2:=by unfold wrapV;rw[A5l H6,A4F H6,A4x]
 unfold unwrapX
 rw[hn,ht,hd]
 exact A3m (A2Q h) (open_seal' h) H6 (x:=(a6L,l)) ⟨rfl,by show l.length=8*(l.length / 8);omega⟩ _
theorem unwrapX_form{key l:List UInt8}(h:key.length=16∨key.length=32)(h8:l.length % 8=0)(hl:16≤l.length):InForm (l.length / 8 - 1) (unwrapX key l):=uSteps_form (open_len' h) H6 _ ⟨by simp;omega,by simp;omega⟩
attribute [irreducible] wrapX wrapV unwrapX
end
section
end
end
section
open Go.ChangeShapes Go.WideShapes Go.ChangeAt Go.RowKit
attribute [local irreducible] wpList wpListIn
section
theorem words_any(p:Option Addr)(n c:Nat)(h:n≤9223372036854775807)(w:World) :
  Calls Tryz.prog 110 #[.slice p n c] w fun e w'=>e=.returned (.int .i64 ((if n % 8=0 then n / 8 else 0:Nat):Int))∧Below w.heap.size w w':=by
 have hS:=St.start w
 go_enter Tryz.func110,Tryz.ntmps110
 repeat' (first|refine Zas ?_|(refine Zks ?_;clear hS;intro b w hS)|(refine Zts ?_;clear hS;intro w hS)|(refine Zc ?_ ?_<;>intro hc)|(refine Zg ?_;first|go_step|go_step3|refine Zr ?_)|fail)
 ·go_ret
  exact⟨by rw[if_neg H6];rfl,hS.below⟩
 ·go_ret
  exact⟨by rw[if_pos H6];rfl,hS.below⟩
theorem steps_any(n:Int)(w:World):Calls Tryz.prog 111 #[.int .i64 n] w fun e w'=>e=.returned (.func (.func 143) #[] #[.pointer (some ⟨w.heap.size,0,none⟩)])∧w'=w.alloc (.cells #[.int .i64 n] 3):=by
 go_enter Tryz.func111,Tryz.ntmps111
 go_wp2
 go_ret
 exact⟨rfl,rfl⟩
def stepN(n:Int):Nat:=if 2≤n∧n≤64 then 6*n.toNat else 0
theorem stepN_pos{n:Nat}(h2:2≤n)(h64:n≤64):stepN n=6*n:=by unfold stepN;rw[if_pos H6];simp
theorem stepN_none{n:Int}(h:n<2∨64<n):stepN n=0:=by unfold stepN;rw[if_neg H6]
theorem steps1_iter(n:Int)(g:Nat)(W0:World)(hg:blk W0 g=some (.cells #[.int .i64 n] 3 (0,0))) :
  IterAt Tryz.prog 143 #[.pointer (some ⟨g,0,none⟩)] (fun k=>#[.int .i64 ((k+1:Nat):Int),.int .i64 (((k % n.toNat+1:Nat)):Int)]) (some (stepN n)) [g] W0:=by
 intro l J Jx M W L0 hbW hR hM hJ0 hH hY
 have hgW:blk W g=some (.cells #[.int .i64 n] 3 (0,0)):=(hbW.block g (J5 hg)).trans hg
 have hgn:g∉L0.map (·.1):=hR g (A5w.2 rfl)
 refine(callsIn_wide (n:=1)).1 ?_
 refine callsIn_of_wp Tryz.func143 rfl trivial ?_ rfl
 simp only[Tryz.ntmps143,A4V,A4G,A4W,Nat.reduceAdd,Nat.reduceSub,A5r,A5s,A5E,A5u,A4x,A4K]
 by_cases h2:n<2
 ·repeat' (first|refine ZaW ?_|((with_reducible refine cons_in ?_);first|((first|refine I7 I4 (by first|exact hgW) ?_|refine I8 I4 (by first|exact hgW) ?_)<;>refine I1 ?_))|(refine ZkW ?_;clear hS;intro b w hS)|(refine ZtW ?_;clear hS;intro w hS)|(refine Zcw ?_ ?_<;>intro hc)|(refine Zi ?_;first|gi_step|refine Zq ?_)|fail)
  refine bodyPost_ret (results_none rfl _ _ _) rfl ?_
  exact⟨⟨_,rfl⟩,L0,.refl hH,.inl ⟨0,by rw[stepN_none (.inl h2)],hJ0⟩⟩
 by_cases h3:64<n
 ·repeat' (first|refine ZaW ?_|((with_reducible refine cons_in ?_);first|((first|refine I7 I4 (by first|exact hgW) ?_|refine I8 I4 (by first|exact hgW) ?_)<;>refine I1 ?_))|(refine ZkW ?_;clear hS;intro b w hS)|(refine ZtW ?_;clear hS;intro w hS)|(refine Zcw ?_ ?_<;>intro hc)|(refine Zi ?_;first|gi_step|refine Zq ?_)|fail)
  refine bodyPost_ret (results_none rfl _ _ _) rfl ?_
  exact⟨⟨_,rfl⟩,L0,.refl hH,.inl ⟨0,by rw[stepN_none (.inr h3)],hJ0⟩⟩
 obtain⟨m,rfl⟩:∃m:Nat,n=m:=⟨n.toNat,by omega⟩
 have hN:stepN m=6*m:=stepN_pos H6 H6
 repeat' (first|refine ZaW ?_|((with_reducible refine cons_in ?_);first|((first|refine I7 I4 (by first|exact hgW) ?_|refine I8 I4 (by first|exact hgW) ?_)<;>refine I1 ?_))|(refine ZkW ?_;clear hS;intro b w hS)|(refine ZtW ?_;clear hS;intro w hS)|(refine Zcw ?_ ?_<;>intro hc)|(refine Zi ?_;first|gi_step|refine Zq ?_)|fail)
 gi_loopg [3] (6*m) (fun r u3 wr=>∃k L,r+k=6*m∧u3=.int .i64 ((k:Int)+1)∧J k L∧Rd L0 W L wr)
 case atStart=>exact⟨0,L0,by omega,rfl,hJ0,.refl hH⟩
 case round =>
  obtain⟨k,L,hk,rfl,hJ,hRd⟩:=hrel
  have hgr:blk wr g=some (.cells #[.int .i64 m] 3 (0,0)):=(hRd.far hgW hgn).1
  by_cases hlt:k<6*m
  ·have m1:0≤(k:Int) % (m:Int):=Int.emod_nonneg _ H6
   have m2:(k:Int) % (m:Int)<(m:Int):=Int.emod_lt_of_pos _ H6
   repeat' (first|refine ZaW ?_|((with_reducible refine cons_in ?_);first|((first|refine I7 I4 (by first|exact hgr) ?_|refine I8 I4 (by first|exact hgr) ?_)<;>refine I1 ?_))|(refine ZkW ?_;clear hS;intro b w hS)|(refine ZtW ?_;clear hS;intro w hS)|(refine Zcw ?_ ?_<;>intro hc)|(refine Zi ?_;first|gi_step|refine Zq ?_)|fail)
   (refine A2M H8 H8 H8 H8 H8 (by simpa using hY k L wr hJ hRd (fun n h=>by cases h;omega)) ?_)
   rintro e W3 ⟨L2,hRd2,(⟨rfl,hJ2⟩|⟨rfl,hx⟩)⟩
   ·refine⟨_,rfl,?_⟩
    refine I1 ?_
    repeat' (first|refine ZaW ?_|((with_reducible refine cons_in ?_);first|((first|refine I7 I4 (by first|exact hgr) ?_|refine I8 I4 (by first|exact hgr) ?_)<;>refine I1 ?_))|(refine ZkW ?_;clear hS;intro b w hS)|(refine ZtW ?_;clear hS;intro w hS)|(refine Zcw ?_ ?_<;>intro hc)|(refine Zi ?_;first|gi_step|refine Zq ?_)|fail)
    gi_roundg (gk - 1)
    case rel=>exact⟨k+1,L2,by omega,by push_cast;rfl,hJ2,hRd.trans hRd2⟩
    case measure=>omega
   ·refine⟨_,rfl,?_⟩
    refine I1 ?_
    repeat' (first|refine ZaW ?_|((with_reducible refine cons_in ?_);first|((first|refine I7 I4 (by first|exact hgr) ?_|refine I8 I4 (by first|exact hgr) ?_)<;>refine I1 ?_))|(refine ZkW ?_;clear hS;intro b w hS)|(refine ZtW ?_;clear hS;intro w hS)|(refine Zcw ?_ ?_<;>intro hc)|(refine Zi ?_;first|gi_step|refine Zq ?_)|fail)
    refine bodyPost_end (results_none rfl _ _ _) rfl ?_
    exact⟨⟨_,rfl⟩,L2,hRd.trans hRd2,.inr hx⟩
  ·obtain rfl:k=6*m:=by omega
   repeat' (first|refine ZaW ?_|((with_reducible refine cons_in ?_);first|((first|refine I7 I4 (by first|exact hgr) ?_|refine I8 I4 (by first|exact hgr) ?_)<;>refine I1 ?_))|(refine ZkW ?_;clear hS;intro b w hS)|(refine ZtW ?_;clear hS;intro w hS)|(refine Zcw ?_ ?_<;>intro hc)|(refine Zi ?_;first|gi_step|refine Zq ?_)|fail)
   refine bodyPost_end (results_none rfl _ _ _) rfl ?_
   exact⟨⟨_,rfl⟩,L,hRd,.inl ⟨6*m,by rw[hN],hJ⟩⟩
end
section
attribute [local irreducible] xorL sboxL subB sealV openV
theorem drop_pre(x:List UInt8)(j:Nat):(zs 8++x).drop (8*(j+1))=x.drop (8*j):=by
 rw[A5O,A4F F8,A4x,zs_len]
 congr 1
theorem take_pre(x:List UInt8)(j:Nat):(zs 8++x).take (8*(j+1))=zs 8++x.take (8*j):=by
 rw[List.take_append,A4B F8,zs_len]
 congr 2
theorem mid_word(x:List UInt8)(j:Nat):((zs 8++x).drop (8*(j+1))).take 8=wordAt x j:=by
 rw[drop_pre];unfold wordAt;rfl
theorem ovw_pre{l m:List UInt8}{sp:List Value}{o:Nat}(h:o+m.length≤l.length):ovw (l.map bv++sp).toArray o m=((l.take o++(m++l.drop (o+m.length))).map bv++sp).toArray:=by
 unfold ovw
 have e1:((l.map bv++sp).toArray).toList=l.map bv++sp:=rfl
 rw[e1,A4Z E9,A5l E9,←A6g,←A6m]
 simp only[A4N,A4E]
theorem ovw_word{x m:List UInt8}{sp:List Value}{j:Nat}(hm:m.length=8)(h:8*j+8≤x.length):ovw ((zs 8++x).map bv++sp).toArray (8*(j+1)) m=((zs 8++putW x m j).map bv++sp).toArray:=by
 rw[ovw_pre (by rw[A4p,zs_len];omega),take_pre,hm,show 8*(j+1)+8=8*((j+1)+1) by omega,drop_pre,A4E]
 unfold putW
 rw[show 8*(j+1)=8*j+8 by omega]
theorem pre_split(l:List UInt8)(sp:List Value)(o:Nat):(l.map bv++sp).toArray.toList=(l.take o).map bv++((l.drop o).map bv++sp):=by
 have e1:((l.map bv++sp).toArray).toList=l.map bv++sp:=rfl
 rw[e1,←A4E,←A4N,A4L]
theorem steps_g(n:Int)(w:World):Calls Tryz.prog 111 #[.int .i64 n] w fun e w'=>∃g,e=.returned (.func (.func 143) #[] #[.pointer (some ⟨g,0,none⟩)])∧w.heap.size≤g∧blk w' g=some (.cells #[.int .i64 n] 3 (0,0))∧Below w.heap.size w w':=by
 refine(steps_any n w).mono ?_
 rintro e w' ⟨rfl,rfl⟩
 exact⟨_,rfl,A4C _,by rw[A0I,if_pos rfl],(Below.refl _ _).alloc (A4C _) _⟩
theorem wrap_x(key l:List UInt8)(h:key.length=16∨key.length=32)(n:Nat)(hn:l.length=8*n)(hn2:2≤n∧n≤64)(v tv:Value)(w:World)(hv:BytesAt w v key)(ht:BytesAt w tv l) :
  Calls Tryz.prog 64 #[v,tv] w fun e w'=>∃g c sp,e=.returned (.tuple #[.slice (some ⟨g,0,none⟩) (l.length+8) c,.nilIface])∧(l.length+8≤c∧c≤maxLen∧sp.length=c - (l.length+8))∧w.heap.size≤g∧blk w' g=some (.cells ((wrapV key l).map bv++sp).toArray 5 (0,0))∧Below w.heap.size w w':=by
 obtain⟨tp,tc,rfl,htc⟩:=ht.slice
 have hS:=St.start w
 refine S6 Tryz.func64 rfl ?_
 simp only[Tryz.ntmps64,A4V,A4G,A4W,Nat.reduceAdd,Nat.reduceSub,A5r,A5s,A5E,A5u,A4x,A4K]
 refine Zds ?_;intro _ _ _
 refine I9 H9 H8 H8 H8 H8 H8 G2 (A1h key h v _ hv) ?_
 rintro e w1 ⟨rp,rc,rfl,hR,hB⟩
 refine⟨_,rfl,?_⟩
 refine I1 ?_
 clear hS
 have ht1:=ht.below hB
 have hS:=St.start w1
 refine Zds ?_;clear hS;intro b w w hS _ _
 (refine J0 H9 own_st hS (words_any tp l.length tc H6 _) ?_;clear hS;intro w hS;refine I1 ?_)
 rw[if_pos (show l.length % 8=0 by omega),show l.length / 8=n by omega]
 repeat' (first|refine Zas ?_|(refine Zks ?_;clear hS;intro b w hS)|(refine Zts ?_;clear hS;intro w hS)|(refine Zc ?_ ?_<;>intro hc)|(refine Zg ?_;first|go_step|go_step3|refine Zr ?_)|fail)
 have hl0:l≠[]:=by rintro rfl;simp at hn;omega
 have hz0:zs 8≠[]:=by intro e;have:=zs_len 8;rw[e] at this;simp at this
 refine I9 H9 H8 H8 H8 H8 H8 G2 (concat_x _ _ (zs 8) l hz0 hl0 F8 _ _ _ (J9 (hS.blk 1 rfl) (zs_len 8)) (ht1.below hS.below) (hS.blk 0 rfl)) ?_
 rintro e w2 ⟨go,co,spo,rfl,⟨ho1,hcm,hsl⟩,ho2,ho3,ho4⟩
 refine⟨_,rfl,?_⟩
 refine I1 ?_
 replace hS:=own_st.new hS ho4 ho2 ho3
 have HN:=hid hn
 rw[zs_len,hn,show 8+8*n=8*n+8 by omega] at ho1 ⊢
 rw[hn] at hS
 repeat' (first|refine Zas ?_|(refine Zks ?_;clear hS;intro b w hS)|(refine Zts ?_;clear hS;intro w hS)|(refine Zc ?_ ?_<;>intro hc)|(refine Zg ?_;first|go_step|go_step3|refine Zr ?_)|fail)
 refine I9 H9 H8 H8 H8 H8 H8 G2 (steps_g n _) ?_
 rintro e w3 ⟨gs,rfl,hs1,hs2,hs3⟩
 refine⟨_,rfl,?_⟩
 refine I1 ?_
 replace hS:=own_st.new hS hs3 hs1 hs2
 repeat' (first|refine Zas ?_|(refine Zks ?_;clear hS;intro b w hS)|(refine Zts ?_;clear hS;intro w hS)|(refine Zc ?_ ?_<;>intro hc)|(refine Zg ?_;first|go_step|go_step3|refine Zr ?_)|fail)
 rename_i bR x1 x2 x3 bZ x4 bL x5 bO x6 x7 x8 KK hKK
 obtain⟨bA,hbA⟩:∃x,x=b:=⟨_,rfl⟩
 rw[←hbA] at hS ⊢
 clear hbA
 have hX0:beN a6L=12008468691120727718:=by decide +kernel
 obtain⟨X,hX⟩:∃X:Nat→List UInt8 × List UInt8,X=fun k=>wSteps (sealV key) n (a6L,l) k:=⟨_,rfl⟩
 have hXz:X 0=(a6L,l):=by rw[hX];exact wSteps_zero _ _ _
 have hXs:∀k,X (k+1)=wStep (sealV key) n (X k) k:=fun k=>by rw[hX];exact wSteps_succ _ _ _ _
 have hXf:∀k,InForm n (X k):=fun k=>by rw[hX];exact A1j (A2Q h) H6 (x:=(a6L,l)) ⟨rfl,HN.out⟩ k
 have hXe:wrapV key l=(X (6*n)).1++(X (6*n)).2:=by rw[hX];unfold wrapV wrapX;rw[show l.length / 8=n by have:=HN.out;omega]
 have hit:=steps1_iter n gs w3 (hS.blk 0 rfl)
 simp only[A5e] at hit
 rw[stepN_pos hn2.1 hn2.2] at hit
 have hSL:=((own_st.drop hS).erase 3).erase 3
 refine A1b (els:=fun k=>#[.int .i64 ((k+1:Nat):Int),.int .i64 (((k % n+1:Nat)):Int)]) (N:=some (6*n)) (R:=[gs]) (gf:=143) (lb:=#[.pointer (some ⟨gs,0,none⟩)]) H8 F2 hit (Below.refl _ _) (fun _=>rfl)
  (fun k L=>k≤6*n∧L=[(bA,#[.int .u64 ((beN (X k).1:Nat):Int)],163),(bO,#[.slice (some ⟨go,0,none⟩) (8*n+8) co],63),(go,((zs 8++(X k).2).map bv++spo).toArray,5),(bR,#[.slice rp (rkeys key).length rc],184)])
  (fun _ _=>False) 0 (fun h=>by cases h) [(bA,#[.int .u64 12008468691120727718],163),(bO,#[.slice (some ⟨go,0,none⟩) (8*n+8) co],63),(go,((zs 8++l).map bv++spo).toArray,5),(bR,#[.slice rp (rkeys key).length rc],184)] ?I0 ?H0 ?R0 ?act1 ?assign ?body ?done ?stop
 case I0=>exact⟨by omega,by rw[hXz,hX0];rfl⟩
 case H0=>exact hSL.holds
 case R0 =>
  intro x hx
  obtain rfl:=A5w.1 hx
  refine⟨hS.lt 0 rfl,?_⟩
  simp only[A5f,List.map_nil,A4O,A5b,or_false,not_or]
  exact⟨hS.ne 0 1 rfl rfl H5,hS.ne 0 2 rfl rfl H5,hS.ne 0 3 rfl rfl H5,hS.ne 0 6 rfl rfl H5⟩
 case assign =>
  intro l0 k L W hI hIn K hK
  have hS:=hIn.round
  simp only[A6N,A6F,A6G,A6C,A6H,List.foldl_nil,A4q,A4r,A4s]
  refine Zdi ?_;show _
  exact hK _ hS
 case body =>
  rintro l0 k L W ⟨hk,rfl⟩ hIn hN
  have hlt:=hN _ rfl
  have hSW:=hSL.range hIn
  have hS:=hIn.round
  refine Zdi ?_;clear hS;intro _ b w hS _ _
  refine L9 2 G8 G8 G8 ?_
  dsimp only[List.take,List.drop]
  iterate 2 (first|refine ZQ ?_|refine ZQi ?_|refine ZQa ?_)
  refine Zn own_in hS ?_
  clear hS
  intro pB w hS
  try dsimp only
  obtain⟨f1,f2⟩:=hXf k
  have hc1:ovw (bvs (zs 16)) 0 (beB (beN (X k).1) 8)=bvs ((X k).1++zs 8):=by
   rw[←f1,A3d,O4,A4Y,A4x,A4D,f1]
   congr 2
   unfold zs
   rw[A5A]
  refine A0L K4 own_in hS H8 H8 H8 H8 H8 G2 (X9 b 0 8 16 (bvs (zs 16)) 181 (beN (X k).1) _ (own_in.blk 0 hS rfl) (by rw[csz_zs];omega) H6 H5) G0 hc1 B0 ?_
  clear hS
  intro w hS
  refine I1 ?_
  refine Zdi ?_;intro _ _
  have hmod:k % n<n:=Nat.mod_lt _ H6
  refine L9 5 G8 G8 G8 ?_
  dsimp only[List.take,List.drop]
  iterate 5 (first|refine ZQ ?_|refine ZQi ?_|refine ZQa ?_)
  refine Zn own_in hS ?_
  clear hS
  intro pB w hS
  try dsimp only
  have g1:(zs 8++(X k).2).length=8*n+8:=by rw[A4p,zs_len,f2];omega
  have hsrc:BytesAt w _ ((zs 8++(X k).2).drop (8*(k % n+1))):=J7 (n:=8*n+8 - (8*((k % n+1:Nat):Int)).toNat) (c:=co - (8*((k % n+1:Nat):Int)).toNat) (off:=(8*((k % n+1:Nat):Int)).toNat) (own_in.blk 3 hS rfl) (pre_split _ _ _) (by rw[A4z,A4u,g1];omega) (by rw[A4J,g1];omega) H6
  have g2:((zs 8++(X k).2).drop (8*(k % n+1))).take 8=wordAt (X k).2 (k % n):=mid_word _ _
  have g3:=A0Z (l:=(X k).2) (i:=k % n) D6
  refine U5 (i:=0) K4 own_in hS H8 H8 H8 H8 G2 H8 hsrc (by rw[g2,g3,I2,A4p,f1,zs_len];omega) (cs2:=bvs ((X k).1++wordAt (X k).2 (k % n))) (by
   rw[g2,O4,g3,A4Z H6,A4B H6,A4F (by rw[A4p,f1,zs_len];omega),A4S]) B0 rfl ?_
  clear hS hsrc
  intro w hS
  refine I1 ?_
  have g4:((X k).1++wordAt (X k).2 (k % n)).length=16:=by rw[A4p,f1,g3]
  refine Zdi ?_;intro _ _
  (refine J0 K4 own_in hS (A3G key _ h g4 _ _ (hR.below (hSW.range hS).below)) ?_;clear hS;intro w hS;refine I1 ?_)
  obtain⟨y,hy⟩:∃y,y=sealV key ((X k).1++wordAt (X k).2 (k % n)):=⟨_,rfl⟩
  have g5:y.length=16:=by rw[hy];exact A2Q h _ g4
  rw[←hy]
  refine Zdi ?_;clear hS;intro w hS _ _
  have hbl:beN (y.take 8)<18446744073709551616:=by
   have:=beN_lt (y.take 8)
   rw[A4u,g5] at this
   exact this
  refine I9 K4 H8 H8 H8 H8 H8 G2 (A3a _ (y.take 8) _ (J7 (pre:=[]) (post:=(y.drop 8).map bv) (own_in.blk 0 hS rfl) (by show y.map bv=_;rw[A4x,←A4N,A4L]) rfl (by rw[A4u,g5];rfl) H6) (by rw[A4u,g5];omega)) ?_
  rintro e w' ⟨rfl,rfl⟩
  refine⟨_,rfl,?_⟩
  refine I1 ?_
  have hk64:k+1<18446744073709551616:=by omega
  repeat' (first|refine Zai ?_|(refine Zki ?_;clear hS;intro b w hS)|(refine Zti ?_;clear hS;intro w hS)|(refine Zci ?_ ?_<;>intro hc)|((with_reducible refine cons_in ?_);first|(refine Stp.go K4 H8 H8 (r_xor64 H8 H8 H8 H6 H6 rfl) ?_;refine I1 ?_))|(refine Zi ?_;first|gi_step|refine Zq ?_)|fail)
  refine L9 5 G8 G8 G8 ?_
  dsimp only[List.take,List.drop]
  iterate 5 (first|refine ZQ ?_|refine ZQi ?_|refine ZQa ?_)
  refine Zn own_in hS ?_
  clear hS
  intro pB w hS
  try dsimp only
  have e0:(8*((k % n+1:Nat):Int)).toNat=8*(k % n+1):=by omega
  have hsrc:BytesAt w _ (y.drop 8):=J7 (pre:=(y.take 8).map bv) (post:=[]) (n:=8) (c:=8) (off:=8) (own_in.blk 0 hS rfl) (by show y.map bv=_;rw[A4S,←A4N,A4L]) (by rw[A4z,A4u,g5];rfl) (by rw[A4J,g5]) H6
  have g6:(y.drop 8).length=8:=by rw[A4J,g5]
  have g7:(y.drop 8).take (8*n+8 - (8*((k % n+1:Nat):Int)).toNat)=y.drop 8:=A4B H6
  refine U5 (i:=3) K4 own_in hS H8 H8 H8 H8 G2 H8 hsrc (by rw[g7,g6,e0,Q7,A4p,A4z,g1];omega) (cs2:=((zs 8++putW (X k).2 (y.drop 8) (k % n)).map bv++spo).toArray) (by
   rw[g7,e0];exact ovw_word g6 D6) B0 rfl ?_
  clear hS hsrc
  intro w hS
  refine I1 ?_
  refine Zdi ?_;show _
  refine⟨_,own_in.drop hS,by omega,?_⟩
  have hstep:X (k+1)=(xorL (y.take 8) (beB (k+1) 8),putW (X k).2 (y.drop 8) (k % n)):=by rw[hXs];exact wStep_of hy.symm
  have hxe:beN (xorL (y.take 8) (beB (k+1) 8))=beN (y.take 8) ^^^ (k+1):=by
   rw[beN_xor 8 _ _ (by rw[A4u,g5];rfl) (K9 _ _),A3b,A6d H6]
  rw[hstep,hxe]
 case done =>
  rintro D m L W hm ⟨hk,rfl⟩ hIn hD hD0
  obtain rfl:6*n=m:=Option.some.inj hm
  have hS:StD w1 D W _:=⟨hSL.range hIn,hD⟩
  have hDw:w1.heap.size≤D:=A4T hSL.below.size hD0
  clear hit hIn
  repeat' (first|refine ZaD ?_|(refine ZkD ?_;clear hS;intro b w hS)|(refine ZtD ?_;clear hS;intro w hS)|(refine Zc ?_ ?_<;>intro hc)|(refine Zg ?_;first|go_step|go_step3|refine Zr ?_)|fail)
  refine I5 3 G8 G8 ?_
  dsimp only[List.take,List.drop]
  iterate 3 (first|refine ZQ ?_|refine ZQD ?_|refine ZQa ?_)
  refine Zn own_stD hS ?_
  clear hS
  intro pB w hS
  try dsimp only
  obtain⟨f1,f2⟩:=hXf (6*n)
  have hfin:ovw ((zs 8++(X (6*n)).2).map bv++spo).toArray 0 (beB (beN (X (6*n)).1) 8)=((wrapV key l).map bv++spo).toArray:=by
   rw[←f1,A3d,hXe,ovw_pre (by rw[A4p,zs_len,f1];omega),A4Y,A4x,A4D,f1,A5O,A4F F8,zs_len,A4x]
   rfl
  refine A0L H9 own_stD hS H8 H8 H8 H8 H8 G2 (X9 go 0 8 _ _ 5 (beN (X (6*n)).1) _ (own_stD.blk 2 hS rfl) (by rw[Q7,A4p,A4z,A4p,zs_len];omega) H6 hcm) (by exact at_ 2 rfl) hfin B0 ?_
  clear hS
  intro w hS
  refine I1 ?_
  refine ZdD ?_;show _
  refine postM (.inl rfl) rfl hS.2 ?_
  have hS2:=hS.shut hDw
  go_ret2
  exact⟨go,co,spo,by rw[hn];rfl,⟨by omega,hcm,by rw[zs_len] at hsl;omega⟩,A4T hB.size (hS2.2.1 _ (A4A _ (A4A _ (A4t ..)))).1,hS2.blk 2 rfl,hB.trans (hS2.below.mono hB.size)⟩
 case stop=>rintro D c L W hf;exact hf.elim
theorem wrap_good(key l:List UInt8)(h:key.length=16∨key.length=32)(n:Nat)(hn:l.length=8*n)(hn2:2≤n∧n≤64)(v tv:Value)(w:World)(hv:BytesAt w v key)(ht:BytesAt w tv l) :
  Calls Tryz.prog 64 #[v,tv] w fun e w'=>∃g c sp,e=.returned (.tuple #[.slice (some ⟨g,0,none⟩) (l.length+8) c,.nilIface])∧l.length+8≤c∧w.heap.size≤g∧blk w' g=some (.cells ((wrapV key l).map bv++sp).toArray 5 (0,0))∧Below w.heap.size w w':=by
 refine(wrap_x key l h n hn hn2 v tv w hv ht).mono ?_
 rintro e w' ⟨g,c,sp,rfl,⟨h1,_,_⟩,h2,h3,h4⟩
 exact⟨g,c,sp,rfl,h1,h2,h3,h4⟩
end
section
attribute [local irreducible] xorL sboxL subB sealV openV
end
end
end Go.Proofs.YtggbbafanhceaaaGreatRR
