/-
  Laws that the claims of this seat use, of several texts in one. No condition of their own.
-/
import Derived.Test.YtggbbafanhceaaaGreatRRL23
set_option maxRecDepth 100000
set_option maxHeartbeats 8000000
set_option linter.all false
namespace Go.Proofs.YtggbbafanhceaaaGreatRR
section
open Go.ChangeShapes Go.WideShapes Go.ChangeAt Go.RowKit
section
attribute [local irreducible] xorL sboxL subB
end
section
theorem RowsAt.len{w:World}{s:Nat}{v:Value}{ks:List (List UInt8)}(h:RowsAt w s v ks):∃p c,v=.slice p ks.length c:=by
 obtain⟨_,p,c,h,_⟩:=h;exact⟨p,c,h⟩
theorem A1h(key:List UInt8)(h:key.length=16∨key.length=32)(v:Value)(w:World)(hv:BytesAt w v key):Calls Tryz.prog 102 #[v] w fun e w'=>∃p c,e=.returned (.tuple #[.slice p (rkeys key).length c,.nilIface])∧RowsAt w' 16 (.slice p (rkeys key).length c) (rkeys key)∧Below w.heap.size w w':=by
 rcases h with h|h
 ·refine(rounds4_any key h v w hv).mono ?_
  intro e w' h
  unfold RoundsOf at h
  obtain⟨v,rfl,h1,h2⟩:=h
  obtain⟨p,c,rfl⟩:=h1.len
  exact⟨p,c,rfl,h1,h2⟩
 ·refine(rounds8_any key h v w hv).mono ?_
  intro e w' h
  unfold RoundsOf at h
  obtain⟨v,rfl,h1,h2⟩:=h
  obtain⟨p,c,rfl⟩:=h1.len
  exact⟨p,c,rfl,h1,h2⟩
end
section
theorem A2F{w:World}{v:Value}{ks:List (List UInt8)}(h:RowsAt w 16 v ks):KeysAt w v ks:=by
 obtain⟨h1,p,c,h2,_,h3⟩:=h
 exact⟨h1,p,c,h2,h3⟩
def sealV(key x:List UInt8):List UInt8:=encN (rkeys key) x (rkeys key).length
def openV(key x:List UInt8):List UInt8:=decN (rkeys key) x (rkeys key).length
theorem Z9{key x:List UInt8}(h:key.length=16∨key.length=32)(hx:x.length=16):(sealV key x).length=16:=A3U (A1D h) hx _ (A4C _)
theorem openV_len{key x:List UInt8}(h:key.length=16∨key.length=32)(hx:x.length=16):(openV key x).length=16:=decN_len (A1D h) hx _ (A4C _)
attribute [local irreducible] xorL sboxL subB sealV openV
theorem seal_good(key x:List UInt8)(h:key.length=16∨key.length=32)(hx:x.length=16)(v:Value)(w:World)(hv:BytesAt w v key):Calls Tryz.prog 135 #[v,.agg (bvs x)] w fun e w'=>e=.returned (.tuple #[.agg (bvs (sealV key x)),.nilIface])∧Below w.heap.size w w':=by
 have RG:=hid (A1h key h)
 have EG:=hid (fun v w (hr:RowsAt w 16 v (rkeys key))=>encrypt_any (rkeys key) x hx v w (A2F hr) (by rw[A1r];omega))
 have HV:=hid hv
 have s1:csz (bvs x)=16:=by rw[I2,hx]
 have s2:csz (bvs (sealV key x))=16:=by rw[I2,Z9 h hx]
 have EG2:Hid (∀v w,RowsAt w 16 v (rkeys key)→Calls Tryz.prog 84 #[v,.agg (bvs x)] w fun e w'=>e=.returned (.agg (bvs (sealV key x)))∧Below w.heap.size w w'):=hid fun v w hr=>by unfold sealV;exact EG.out v w hr
 clear EG hv h hx
 have z:=zs16;have e0:=zs_ne
 go_enter Tryz.func135,Tryz.ntmps135
 go_wp2_with fail
 have hS:=show St w ((w.alloc (.cells (bvs x) 181)).alloc (.cells (bvs (zs 16)) 181)) [(w.heap.size+1,bvs (zs 16),181),(w.heap.size,bvs x,181)] from(St.alloc' (St.alloc' (St.start w) F7) F7)
 with_reducible refine(RG.out _ _ (HV.out.below hS.below)).mono ?_
 rintro e w1 ⟨p,c,rfl,hR,hb⟩
 have hS1:=hS.call hb
 clear hS hb
 obtain⟨kb0,kc0,kf0,kl0,kn0⟩:=hS1.at 0 rfl;obtain⟨kb1,kc1,kf1,kl1,kn1⟩:=hS1.at 1 rfl
 have HR:=hid hR
 clear hR
 go_wp2_with fail
 with_reducible refine(EG2.out _ _ HR.out).mono ?_
 rintro e w2 ⟨rfl,hb⟩
 have hS2:=hS1.call hb
 clear hS1 hb kb0 kc0 kf0 kl0 kn0 kb1 kc1 kf1 kl1 kn1
 obtain⟨kb0,kc0,kf0,kl0,kn0⟩:=hS2.at 0 rfl;obtain⟨kb1,kc1,kf1,kl1,kn1⟩:=hS2.at 1 rfl
 go_wp2
 have h3:=hS2.setRow 0 rfl (bvs (sealV key x))
 exact L3 (n:=16) Tryz.results135 G8 (.inl rfl) _ _ _ _ rfl rfl (h3.blk 0 rfl) (by rw[←K3];exact s2) ⟨rfl,h3.below⟩
end
section
def dblIt(x:List UInt8):Nat→List UInt8
 | 0=>x
 | j+1=>dblB (dblIt x j)
theorem dblIt_zero(x:List UInt8):dblIt x 0=x:=rfl
theorem dblIt_succ(x:List UInt8)(j:Nat):dblIt x (j+1)=dblB (dblIt x j):=rfl
theorem A0d{x:List UInt8}(h:x.length=16):∀j,(dblIt x j).length=16
 | 0=>h
 | _+1=>dblB_len _
def tweakV(key:List UInt8)(n j:Nat):List UInt8:=dblIt (sealV key (leB n 8++zs 8)) j
theorem tweakV_zero(key:List UInt8)(n:Nat):tweakV key n 0=sealV key (leB n 8++zs 8):=rfl
theorem tweakV_it(key:List UInt8)(n j:Nat):tweakV key n j=dblIt (tweakV key n 0) j:=rfl
theorem num_len(n:Nat):(leB n 8++zs 8).length=16:=by rw[A4p,A0h,zs_len]
theorem A0e{key:List UInt8}(h:key.length=16∨key.length=32)(n j:Nat):(tweakV key n j).length=16:=A0d (Z9 h (num_len n)) j
def hideB(key t x:List UInt8):List UInt8:=xorL (sealV key (xorL x t)) t
def showB(key t x:List UInt8):List UInt8:=xorL (openV key (xorL x t)) t
theorem hideB_len{key t x:List UInt8}(h:key.length=16∨key.length=32)(ht:t.length=16)(hx:x.length=16):(hideB key t x).length=16:=M6 _ _ 16 (Z9 h (M6 _ _ 16 hx ht)) ht
theorem showB_len{key t x:List UInt8}(h:key.length=16∨key.length=32)(ht:t.length=16)(hx:x.length=16):(showB key t x).length=16:=M6 _ _ 16 (openV_len h (M6 _ _ 16 hx ht)) ht
theorem open_seal{key x:List UInt8}(h:key.length=16∨key.length=32)(hx:x.length=16):openV key (sealV key x)=x:=dec_enc_all (A1D h) hx
theorem show_hide{key t x:List UInt8}(h:key.length=16∨key.length=32)(ht:t.length=16)(hx:x.length=16):showB key t (hideB key t x)=x:=by
 unfold showB hideB
 rw[A2b (by rw[Z9 h (M6 _ _ 16 hx ht),ht]),open_seal h (M6 _ _ 16 hx ht),A2b (by rw[hx,ht])]
def hideV(key:List UInt8)(n:Nat)(l:List UInt8):List UInt8:=turnL (hideB (key.take (key.length / 2))) (tweakV (key.drop (key.length / 2)) n) false l
def showV(key:List UInt8)(n:Nat)(l:List UInt8):List UInt8:=turnL (showB (key.take (key.length / 2))) (tweakV (key.drop (key.length / 2)) n) true l
theorem T5{key:List UInt8}(h:key.length=32∨key.length=64):((key.take (key.length / 2)).length=16∨(key.take (key.length / 2)).length=32)∧((key.drop (key.length / 2)).length=16∨(key.drop (key.length / 2)).length=32):=by
 simp;omega
theorem hide_wide{key:List UInt8}(h:key.length=32∨key.length=64)(n:Nat):Wide (hideB (key.take (key.length / 2))) (tweakV (key.drop (key.length / 2)) n):=fun j _ hx=>hideB_len (T5 h).1 (A0e (T5 h).2 n j) hx
theorem show_wide{key:List UInt8}(h:key.length=32∨key.length=64)(n:Nat):Wide (showB (key.take (key.length / 2))) (tweakV (key.drop (key.length / 2)) n):=fun j _ hx=>showB_len (T5 h).1 (A0e (T5 h).2 n j) hx
theorem hideV_len{key:List UInt8}(h:key.length=32∨key.length=64)(n:Nat){l:List UInt8}(hl:16≤l.length):(hideV key n l).length=l.length:=turnL_len (hide_wide h n) false hl
theorem showV_len{key:List UInt8}(h:key.length=32∨key.length=64)(n:Nat){l:List UInt8}(hl:16≤l.length):(showV key n l).length=l.length:=turnL_len (show_wide h n) true hl
theorem showV_hideV{key:List UInt8}(h:key.length=32∨key.length=64)(n:Nat){l:List UInt8}(hl:16≤l.length):showV key n (hideV key n l)=l :=
 turnL_back (hide_wide h n) (fun j _ hx=>show_hide (T5 h).1 (A0e (T5 h).2 n j) hx) false hl
attribute [irreducible] dblIt tweakV hideB showB hideV showV
end
section
attribute [local irreducible] xorL sboxL subB sealV openV
def u64N(n:Int):Nat:=(n % 18446744073709551616).toNat
theorem u64N_is(n:Int):IntKind.u64.wrap n=(u64N n:Int):=by rw[IntKind.wrap_u64];unfold u64N;omega
attribute [irreducible] u64N
theorem num_ovw(N:Nat):ovw (bvs (zs 16)) 0 (leB N 8)=bvs (leB N 8++zs 8):=by
 rw[O4,A0h,A4Y,A4x]
 congr 2
 unfold zs
 rfl
theorem tweak_any(key:List UInt8)(n:Int)(v:Value)(w:World)(X:Value)(R:List UInt8)(hR:R.length=16)(hv:BytesAt w v key)
  (hseal:∀w',BytesAt w' v key→Calls Tryz.prog 135 #[v,.agg (bvs (leB (u64N n) 8++zs 8))] w' fun e w2=>e=.returned (.tuple #[.agg (bvs R),X])∧Below w'.heap.size w' w2) :
  Calls Tryz.prog 101 #[v,.int .i64 n] w fun e w'=>e=.returned (.tuple #[.agg (bvs R),X])∧Below w.heap.size w w':=by
 have s1:csz (bvs (zs 16))=16:=by rw[I2,zs_len]
 have s2:csz (bvs (leB (u64N n) 8++zs 8))=16:=by rw[I2,num_len]
 have s3:csz (bvs R)=16:=by rw[I2,hR]
 have z:=zs16;have e0:=zs_ne
 have E0:=hid (u64N_is n)
 have E1:=hid (num_ovw (u64N n))
 have HV:=hid hv;have HS:=hid hseal
 clear hv hseal hR
 generalize u64N n=N at *
 go_enter Tryz.func101,Tryz.ntmps101
 go_wp2_with fail
 rw[E0.out]
 (with_reducible refine(A1m _ _ _ _ (bvs (zs 16)) _ _ _ D1 (by rw[s1];omega) H6 F6).mono ?_)
 rintro e w1 ⟨rfl,rfl⟩
 rw[E1.out]
 go_wp2_with fail
 (with_reducible refine(HS.out _ (HV.out.below A3)).mono ?_)
 rintro e wg ⟨rfl,hb⟩
 obtain⟨g1,rfl⟩:=grow_of hb
 clear hb
 go_wp2
 exact L3 (n:=16) Tryz.results101 G8 (.inl rfl) _ _ _ _ rfl rfl D1 D3 ⟨rfl,A3⟩
theorem tweak_good(key:List UInt8)(h:key.length=16∨key.length=32)(n:Int)(v:Value)(w:World)(hv:BytesAt w v key) :
  Calls Tryz.prog 101 #[v,.int .i64 n] w fun e w'=>e=.returned (.tuple #[.agg (bvs (tweakV key (u64N n) 0)),.nilIface])∧Below w.heap.size w w':=by
 have e:tweakV key (u64N n) 0=sealV key (leB (u64N n) 8++zs 8):=tweakV_zero _ _
 rw[e]
 exact tweak_any key n v w _ _ (Z9 h (num_len _)) hv fun w' hv'=>seal_good key _ h (num_len _) v w' hv'
end
section
theorem wrap_succ(k:Nat):wrap64 (wrap64 (k:Int)+1)=wrap64 ((k+1:Nat):Int):=by unfold wrap64;omega
theorem Rd.newRow{L0 L:List (Nat × Obj)}{W W1:World}(h:Rd L0 W L W1){b:Nat}(hb:W.heap.size≤b)(hn:b∉L.map (·.1))(cs:Array Value):Rd L0 W L (W1.setRow b cs):=by
 refine⟨⟨fun x hx=>?_,h.holds.2⟩,⟨h.kept.os,h.kept.tape,h.kept.output,by have:=h.kept.size;simpa using this,fun k hk hn2=>?_⟩,h.fresh⟩
 ·refine(setRow_other W1 b x.1 cs (fun e=>hn (e ▸ A4I.2 ⟨x,hx,rfl⟩))).trans (h.holds.1 x hx)
 ·exact(setRow_other W1 b k cs H6).trans (h.kept.block k hk hn2)
theorem Rd.grow{L0 L:List (Nat × Obj)}{W W1:World}(h:Rd L0 W L W1)(g:Laid):Rd L0 W L (Go.Proofs.YtggbbafanhceaaaGreatRR.grow W1 g):=h.trans (.call h.holds (A0N W1 g))
theorem Rd.drewN{L0 L:List (Nat × Obj)}{W W1:World}(h:Rd L0 W L W1)(n:Nat):Rd L0 W L (W1.drewN n):=h.trans (.call h.holds ⟨rfl,rfl,rfl,A4C _,fun _ _=>rfl⟩)
theorem Rd.skip{L0 L:List (Nat × Obj)}{W W1:World}(h:Rd L0 W L W1)(o:Obj):Rd L0 W L (W1.alloc o):=h.trans (.call h.holds ((Below.refl _ _).alloc (A4C _) _))
theorem Holds.fresh{W:World}{L:List (Nat × Obj)}(h:Holds W L){b:Nat}(hb:W.heap.size≤b):b∉L.map (·.1):=fun hm=>by
 obtain⟨x,hx,he⟩:=A4I.1 hm
 have:=h.lt hx
 omega
theorem tweaks_any(x:List UInt8)(hx:x.length=16)(w:World):Calls Tryz.prog 108 #[.agg (bvs x)] w fun e w'=>e=.returned (.func (.func 141) #[] #[.pointer (some ⟨w.heap.size,0,none⟩)])∧w'=w.alloc (.cells (bvs x) 181):=by
 have s1:csz (bvs x)=16:=by rw[I2,hx]
 clear hx
 go_enter Tryz.func108,Tryz.ntmps108
 go_wp2
 go_ret
 exact⟨rfl,rfl⟩
theorem A4k(x:List UInt8)(hx:x.length=16)(g:Nat)(W0:World)(hg:blk W0 g=some (.cells (bvs x) 181 (0,0))) :
  IterAt Tryz.prog 141 #[.pointer (some ⟨g,0,none⟩)] (fun k=>#[.int .i64 (wrap64 k),.agg (bvs (dblIt x k))]) none [g] W0:=by
 intro l J Jx M W L0 hbW hR hM hJ0 hH hY
 have hgW:blk W g=some (.cells (bvs x) 181 (0,0)):=(hbW.block g (J5 hg)).trans hg
 have hgl:=J5 hgW
 have hM':=hid (hM rfl)
 have HY:=hid hY
 have s1:csz (bvs x)=16:=by rw[I2,hx]
 have HL:=hid (fun k=>show csz (bvs (dblIt x k))=16 by rw[I2,A0d hx])
 have HL2:=hid (fun k=>A0d hx k)
 have HD:=hid (fun k=>(dblIt_succ x k).symm)
 have H0:=hid (dblIt_zero x)
 have z:=zs16
 have sz:csz (bvs (zs 16))=16:=by rw[I2,zs_len]
 have e0:=zs_ne
 clear hM hY hR hg hbW hx
 refine(callsIn_wide (n:=1)).1 ?_
 refine callsIn_of_wp Tryz.func141 rfl trivial ?_ rfl
 simp only[Tryz.ntmps141,A4V,A4G,A4W,Nat.reduceAdd,Nat.reduceSub,A5r,A5s,A5E,A5u,A4x,A4K]
 gi_wp2
 gi_region
 all_goals gi_wp2
 gi_loopg [3,4] M (fun n u3 u4 wr=>∃k L b,n+k=M∧u3=.int .i64 (wrap64 ((k:Nat):Int))∧u4=.pointer (some ⟨b,0,none⟩)∧J k L∧Rd L0 W L wr∧blk wr b=some (.cells (bvs (dblIt x k)) 181 (0,0))∧W.heap.size≤b∧b∉L.map (·.1))
 case atStart=>exact⟨0,L0,W.heap.size,by omega,by simp[wrap64],rfl,hJ0,by repeat (first|exact Rd.refl hH|refine Rd.skip ?_ _|refine Rd.drewN ?_ _|exact Rd.drewN ?_ 1),by rw[H0.out];go_simp,A4C _,hH.fresh (A4C _)⟩
 case round =>
  obtain⟨k,L,b,hk,rfl,rfl,hJ,hRd,hb,hbW,hbn⟩:=hrel
  have hl:=HL.out k
  have hl2:=HL.out (k+1)
  have hlt:=J5 hb
  obtain⟨fn,tmps,assign,body,hy,hRo⟩:=HY.out k L wr hJ hRd (fun n h=>by cases h)
  have HH:=hid hRd;have HHJ:=hid hJ;have HB:=hid hb;have HN:=hid hbn
  clear hRd hJ
  gi_wp2
  refine hRo.mono ?_
  rintro e W3 ⟨L2,hRd2,(⟨rfl,hJ2⟩|⟨rfl,hx⟩)⟩
  ·have hT:=HH.out.trans hRd2
   have hm:=hM'.out (k+1) L2 hJ2
   obtain⟨hb2,hbn2⟩:=hRd2.far HB.out HN.out
   have hb3:blk W3 b=some (.cells (bvs (dblIt x k)) 181 (0,0)):=hb2
   have hlt3:=J5 hb3
   have hsz:=hT.kept.size
   have HT:=hid hT;clear hT;have HJ:=hid hJ2;have HN2:=hid hbn2
   clear hRd2 hJ2 hRo hy HH HHJ hb2 hbn2 hb
   have hb4:=A0B hb3 (bvs (dblIt x (k+1)))
   gi_wp2_with fail
   refine(callsIn_wide.2 (double_any (dblIt x k) (HL2.out k) _)).mono ?_
   rintro e w' ⟨rfl,hb⟩
   obtain⟨g3,rfl⟩:=grow_of hb
   rw[HD.out]
   clear hb
   gi_wp2
   gi_roundg (gk - 1)
   case rel =>
    have hR:=((HT.out.newRow hbW HN2.out (bvs (dblIt x (k+1)))).grow g3)
    exact⟨k+1,L2,W3.heap.size+g3.n,by omega,by rw[←wrap_succ],rfl,HJ.out,hR.skip _,by go_simp,by omega,hR.holds.fresh (by go_simp)⟩
   case measure=>omega
  ·have hT:=HH.out.trans hRd2
   gi_wp2
   go_end0
   exact⟨⟨_,rfl⟩,L2,hT,.inr hx⟩
end
section
attribute [local irreducible] xorL sboxL subB sealV openV
def wkC(r f:Value)(x:List UInt8):Array Value:=(r::f::x.map bv).toArray
def buildW(t:TypeId)(parts:Array (Nat × Value)):Sem Value:=if t=t then Instr.build t parts else Instr.build t parts
@[go_sem ↓] theorem build_work(parts:Array (Nat × Value)):Instr.build 188 parts=buildW 188 parts:=by unfold buildW;rw[if_pos rfl]
@[go_sem] theorem run_build_work(p:Option Addr)(n c:Nat)(f:Fn)(x:List UInt8)(h:csz (bvs x)=16)(w:World) :
  (buildW 188 #[(0,.slice p n c),(1,.func f #[] #[]),(2,.agg (bvs x))]).run Tryz.prog w=.ok (.agg (wkC (.slice p n c) (.func f #[] #[]) x)) w:=by
 rw[I2] at h
 obtain⟨a0,a1,a2,a3,a4,a5,a6,a7,a8,a9,a10,a11,a12,a13,a14,a15,rfl⟩:=len16 h
 unfold buildW
 rw[if_pos rfl]
 kernel_rfl
theorem wkC_size(r f:Value)(x:List UInt8):csz (wkC r f x)=x.length+2:=by rw[K3];simp[wkC]
theorem wkC_cut(r f:Value)(x:List UInt8)(h:x.length=16):cut (wkC r f x) 2 16=bvs x:=by
 unfold cut
 rw[if_neg H6]
 apply A5D
 intro i
 rw[A6k]
 by_cases hi:i<16
 ·simp[wkC,bvs,show i+2<18 by omega,hi,Nat.add_comm 2 i,h]
 ·simp[bvs,hi,h,wkC]
theorem wkC_0(r f:Value)(x:List UInt8):(wkC r f x)[0]?=some r:=rfl
theorem wkC_1(r f:Value)(x:List UInt8):(wkC r f x)[1]?=some f:=rfl
attribute [irreducible] wkC
theorem BytesAt.drop{w:World}{p:Option Addr}{n c:Nat}{l:List UInt8}(h:BytesAt w (.slice p n c) l)(k:Nat)(hk:k<c)(hkn:k≤n):BytesAt w (.slice (p.map (·.add k)) (n - k) (c - k)) (l.drop k):=by
 obtain⟨p',c',hv,h1,h0,h3⟩:=h
 simp only[Value.slice.injEq] at hv
 obtain⟨rfl,rfl,rfl⟩:=hv
 refine⟨p.map (·.add k),c - k,by rw[A4J],by rw[A4J];omega,fun hn=>?_,fun hne=>?_⟩
 ·cases p with
  | none=>have:=h0 rfl;omega
  | some a=>cases hn
 ·obtain⟨b,o,cs,t,e,rfl,hb,hx⟩:=h3 (fun e=>hne (by rw[e,List.drop_nil]))
  refine⟨b,o+k,cs,t,e,by simp[A0m],hb,fun i x hi=>?_⟩
  rw[A5G] at hi
  rw[A6c]
  exact hx _ _ hi
theorem BytesAt.ptr{w:World}{p:Option Addr}{n c:Nat}{l:List UInt8}(h:BytesAt w (.slice p n c) l)(hn:0<n):∃b o,p=some ⟨b,o,none⟩:=by
 obtain⟨p',c',hv,h1,h0,h3⟩:=h
 simp only[Value.slice.injEq] at hv
 obtain⟨rfl,rfl,rfl⟩:=hv
 obtain⟨b,o,cs,t,e,rfl,_⟩:=h3 (by intro e;subst e;simp at hn)
 exact⟨b,o,rfl⟩
theorem BytesAt.from{w:World}{b o n c:Nat}{l:List UInt8}(h:BytesAt w (.slice (some ⟨b,o,none⟩) n c) l)(k:Nat)(hkn:k≤n):BytesAt w (.slice (some ⟨b,o+k,none⟩) (n - k) (c - k)) (l.drop k):=by
 obtain⟨p',c',hv,h1,h0,h3⟩:=h
 simp only[Value.slice.injEq] at hv
 obtain⟨rfl,rfl,rfl⟩:=hv
 refine⟨_,c - k,by rw[A4J],by rw[A4J];omega,(fun hn=>by cases hn),fun hne=>?_⟩
 obtain⟨b',o',cs,t,e,hp,hb,hx⟩:=h3 (fun e=>hne (by rw[e,List.drop_nil]))
 simp only[Option.some.injEq,Addr.mk.injEq,and_true] at hp
 obtain⟨rfl,rfl⟩:=hp
 refine⟨b,o+k,cs,t,e,rfl,hb,fun i x hi=>?_⟩
 rw[A5G] at hi
 rw[A6c]
 exact hx _ _ hi
theorem BytesAt.take{w:World}{p:Option Addr}{n c:Nat}{l:List UInt8}(h:BytesAt w (.slice p n c) l)(k:Nat)(hkn:k≤n):BytesAt w (.slice p k c) (l.take k):=by
 obtain⟨p',c',hv,h1,h0,h3⟩:=h
 simp only[Value.slice.injEq] at hv
 obtain⟨rfl,rfl,rfl⟩:=hv
 refine⟨p,c,by rw[A4u,A6b hkn],by rw[A4u];omega,h0,fun hne=>?_⟩
 obtain⟨b,o,cs,t,e,rfl,hb,hx⟩:=h3 (fun e=>hne (by rw[e,List.take_nil]))
 refine⟨b,o,cs,t,e,rfl,hb,fun i x hi=>hx i x ?_⟩
 rw[A5h] at hi
 split at hi
 ·exact hi
 ·cases hi
def WorkAt(key:List UInt8)(n:Int)(fv:Value)(w w':World)(e:Ending):Prop :=
 ∃b p c,e=.returned (.tuple #[.pointer (some ⟨b,0,none⟩),.nilIface])∧w.heap.size≤b∧blk w' b=some (.cells (wkC (.slice p (rkeys (key.take (key.length / 2))).length c) fv (tweakV (key.drop (key.length / 2)) (u64N n) 0)) 188 (0,0)) ∧
  RowsAt w' 16 (.slice p (rkeys (key.take (key.length / 2))).length c) (rkeys (key.take (key.length / 2)))∧Below w.heap.size w w'
theorem begin_good(key l:List UInt8)(h:key.length=32∨key.length=64)(n:Int)(v tv:Value)(f:Fn)(w:World)(hv:BytesAt w v key)(ht:BytesAt w tv l)(h1:16≤l.length)(h2:l.length≤65536) :
  Calls Tryz.prog 61 #[v,.int .i64 n,tv,.func f #[] #[]] w fun e w'=>WorkAt key n (.func f #[] #[]) w w' e:=by
 obtain⟨p,c,rfl,hc⟩:=hv.slice
 obtain⟨tp,tc,rfl,htc⟩:=ht.slice
 have hh:=T5 h
 obtain⟨kb,ko,rfl⟩:=hv.ptr H6
 have H1:=hv.from (key.length / 2) H6
 have H2:=hv.take (key.length / 2) H6
 have T1:=hid (fun v w (hv:BytesAt w v (key.drop (key.length / 2)))=>tweak_good _ hh.2 n v w hv)
 have R1:=hid (fun v w (hv:BytesAt w v (key.take (key.length / 2)))=>A1h _ hh.1 v w hv)
 have s3:csz (bvs (tweakV (key.drop (key.length / 2)) (u64N n) 0))=16:=by rw[I2,A0e hh.2]
 unfold WorkAt
 generalize key.length=nk at *
 generalize l.length=nt at *
 generalize hk1:key.take (nk / 2)=k1 at *
 generalize hk2:key.drop (nk / 2)=k2 at *
 generalize tweakV k2 (u64N n) 0=x at *
 clear hv ht hk1 hk2 hh
 have t1:¬(nt:Int)<16:=by omega
 have t2:¬(65536:Int)<nt:=by omega
 have t3:decide ((nt:Int)<16)=false:=by simpa using t1
 have t4:decide ((65536:Int)<nt)=false:=by simpa using t2
 rcases h with rfl|rfl
 ·have c1:¬c=16:=by omega
  simp only[Nat.reduceDiv,Nat.reduceSub] at H1 H2
  have H1:=hid H1;have H2:=hid H2
  go_enter Tryz.func61,Tryz.ntmps61
  go_wp2_with fail
  (with_reducible refine(T1.out _ _ H1.out).mono ?_)
  rintro e wg ⟨rfl,hb⟩
  obtain⟨g1,rfl⟩:=grow_of hb
  clear hb
  go_wp2_with fail
  (with_reducible refine(R1.out _ _ (H2.out.below A3)).mono ?_)
  rintro e wg ⟨rp,rc,rfl,hR,hb⟩
  obtain⟨g2,rfl⟩:=grow_of hb
  clear hb
  go_wp2
  go_ret2
  exact⟨_,_,_,rfl,by omega,by go_simp,hR.below A3,A3⟩
 ·have c1:¬c=32:=by omega
  simp only[Nat.reduceDiv,Nat.reduceSub] at H1 H2
  have H1:=hid H1;have H2:=hid H2
  go_enter Tryz.func61,Tryz.ntmps61
  go_wp2_with fail
  (with_reducible refine(T1.out _ _ H1.out).mono ?_)
  rintro e wg ⟨rfl,hb⟩
  obtain⟨g1,rfl⟩:=grow_of hb
  clear hb
  go_wp2_with fail
  (with_reducible refine(R1.out _ _ (H2.out.below A3)).mono ?_)
  rintro e wg ⟨rp,rc,rfl,hR,hb⟩
  obtain⟨g2,rfl⟩:=grow_of hb
  clear hb
  go_wp2
  go_ret2
  exact⟨_,_,_,rfl,by omega,by go_simp,hR.below A3,A3⟩
theorem A3G(key x:List UInt8)(h:key.length=16∨key.length=32)(hx:x.length=16)(v:Value)(w:World)(hr:RowsAt w 16 v (rkeys key)) :
  Calls Tryz.prog 84 #[v,.agg (bvs x)] w fun e w'=>e=.returned (.agg (bvs (sealV key x)))∧Below w.heap.size w w':=by
 unfold sealV
 exact encrypt_any (rkeys key) x hx v w (A2F hr) (by rw[A1r];omega)
theorem hideWork_any(key t x x0:List UInt8)(h:key.length=16∨key.length=32)(ht:t.length=16)(hx:x.length=16)(rv:Value)(b:Nat)(w:World)
  (hb:blk w b=some (.cells (wkC rv (.func (.func 84) #[] #[]) x0) 188 (0,0)))(hr:RowsAt w 16 rv (rkeys key)) :
  Calls Tryz.prog 109 #[.pointer (some ⟨b,0,none⟩),.agg (bvs t),.agg (bvs x)] w fun e w'=>e=.returned (.agg (bvs (hideB key t x)))∧Below w.heap.size w w':=by
 have hX:=M6 _ _ 16 hx ht
 have HS:=hid (fun w' (hv':RowsAt w' 16 rv (rkeys key))=>A3G key _ h hX rv w' hv')
 have hR:(sealV key (xorL x t)).length=16:=Z9 h hX
 have H1:=hid (A1l x t hx ht)
 have H2:=hid (A1l _ t hR ht)
 have E:=hid (show xorL (sealV key (xorL x t)) t=hideB key t x by unfold hideB;rfl)
 rw[E.out] at H2
 have s1:csz (bvs (zs 16))=16:=by rw[I2,zs_len]
 have s2:csz (bvs t)=16:=by rw[I2,ht]
 have s3:csz (bvs x)=16:=by rw[I2,hx]
 have s4:csz (bvs (hideB key t x))=16:=by rw[I2,hideB_len h ht hx]
 have z:=zs16;have e0:=zs_ne
 have HV:=hid hr
 have c0:w.cell? ⟨b,0,none⟩=some rv:=by rw[cell_of_row w b 0 _ _ _ hb];exact wkC_0 _ _ _
 have c1:w.cell? ⟨b,1,none⟩=some (.func (.func 84) #[] #[]):=by rw[cell_of_row w b 1 _ _ _ hb];exact wkC_1 _ _ _
 have hl:=J5 hb
 clear hr hX hR h ht hx E hb
 go_enter Tryz.func109,Tryz.ntmps109
 go_wp2_with fail
 refine R4 G8 G8 ?_
 dsimp only[List.dropLast,List.getLast?,List.getLast,Option.getD]
 repeat (first|(refine BigFrame.wpQuiet_skip rfl ?_;simp only[Act.put,A4q,A4r,A4s])|(refine BigFrame.wpQuiet_want rfl (fun K hK=>?_);apply Exists.intro;refine⟨fun w' hw'=>?_,hK _ ?_⟩;(focus (have zw:=hw';obtain⟨zg,rfl⟩:=grow_of hw';go_simp;(try (go_bits;go_simp));first|done|rfl|(first|((with_reducible refine(H1.out _).mono fun e w2 h2=>⟨h2.1,zw.step h2.2⟩))|((with_reducible refine(HS.out _ ?_).mono fun e w2 h2=>⟨h2.1,zw.step h2.2⟩);exact HV.out.below A3)|((with_reducible refine(H2.out _).mono fun e w2 h2=>⟨h2.1,zw.step h2.2⟩)))));clear hK K;simp only[Act.put,A4q,A4r,A4s]))
 refine wpQuiet_nil ?_
 intro wq hcq
 obtain⟨gq,rfl⟩:=grow_of hcq
 clear hcq
 go_wp2
 exact J6 (n:=16) Tryz.results109 G8 (.inl rfl) _ _ _ _ rfl rfl D1 D3 ⟨rfl,A3⟩
theorem A3R(key x:List UInt8)(h:key.length=16∨key.length=32)(hx:x.length=16)(v:Value)(w:World)(hr:RowsAt w 16 v (rkeys key)) :
  Calls Tryz.prog 62 #[v,.agg (bvs x)] w fun e w'=>e=.returned (.agg (bvs (openV key x)))∧Below w.heap.size w w':=by
 unfold openV
 exact decrypt_any (rkeys key) x hx v w (A2F hr) (by rw[A1r];omega)
theorem showWork_any(key t x x0:List UInt8)(h:key.length=16∨key.length=32)(ht:t.length=16)(hx:x.length=16)(rv:Value)(b:Nat)(w:World)
  (hb:blk w b=some (.cells (wkC rv (.func (.func 62) #[] #[]) x0) 188 (0,0)))(hr:RowsAt w 16 rv (rkeys key)) :
  Calls Tryz.prog 109 #[.pointer (some ⟨b,0,none⟩),.agg (bvs t),.agg (bvs x)] w fun e w'=>e=.returned (.agg (bvs (showB key t x)))∧Below w.heap.size w w':=by
 have hX:=M6 _ _ 16 hx ht
 have HS:=hid (fun w' (hv':RowsAt w' 16 rv (rkeys key))=>A3R key _ h hX rv w' hv')
 have hR:(openV key (xorL x t)).length=16:=openV_len h hX
 have H1:=hid (A1l x t hx ht)
 have H2:=hid (A1l _ t hR ht)
 have E:=hid (show xorL (openV key (xorL x t)) t=showB key t x by unfold showB;rfl)
 rw[E.out] at H2
 have s1:csz (bvs (zs 16))=16:=by rw[I2,zs_len]
 have s2:csz (bvs t)=16:=by rw[I2,ht]
 have s3:csz (bvs x)=16:=by rw[I2,hx]
 have s4:csz (bvs (showB key t x))=16:=by rw[I2,showB_len h ht hx]
 have z:=zs16;have e0:=zs_ne
 have HV:=hid hr
 have c0:w.cell? ⟨b,0,none⟩=some rv:=by rw[cell_of_row w b 0 _ _ _ hb];exact wkC_0 _ _ _
 have c1:w.cell? ⟨b,1,none⟩=some (.func (.func 62) #[] #[]):=by rw[cell_of_row w b 1 _ _ _ hb];exact wkC_1 _ _ _
 have hl:=J5 hb
 clear hr hX hR h ht hx E hb
 go_enter Tryz.func109,Tryz.ntmps109
 go_wp2_with fail
 refine R4 G8 G8 ?_
 dsimp only[List.dropLast,List.getLast?,List.getLast,Option.getD]
 repeat (first|(refine BigFrame.wpQuiet_skip rfl ?_;simp only[Act.put,A4q,A4r,A4s])|(refine BigFrame.wpQuiet_want rfl (fun K hK=>?_);apply Exists.intro;refine⟨fun w' hw'=>?_,hK _ ?_⟩;(focus (have zw:=hw';obtain⟨zg,rfl⟩:=grow_of hw';go_simp;(try (go_bits;go_simp));first|done|rfl|(first|((with_reducible refine(H1.out _).mono fun e w2 h2=>⟨h2.1,zw.step h2.2⟩))|((with_reducible refine(HS.out _ ?_).mono fun e w2 h2=>⟨h2.1,zw.step h2.2⟩);exact HV.out.below A3)|((with_reducible refine(H2.out _).mono fun e w2 h2=>⟨h2.1,zw.step h2.2⟩)))));clear hK K;simp only[Act.put,A4q,A4r,A4s]))
 refine wpQuiet_nil ?_
 intro wq hcq
 obtain⟨gq,rfl⟩:=grow_of hcq
 clear hcq
 go_wp2
 exact J6 (n:=16) Tryz.results109 G8 (.inl rfl) _ _ _ _ rfl rfl D1 D3 ⟨rfl,A3⟩
end
end
end Go.Proofs.YtggbbafanhceaaaGreatRR
