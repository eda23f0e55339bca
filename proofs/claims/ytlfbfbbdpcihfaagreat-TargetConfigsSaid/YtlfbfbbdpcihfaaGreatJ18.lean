/- Laws that the claim uses. No condition of their own. -/
import Derived.Test.YtlfbfbbdpcihfaaGreatJ14
set_option maxRecDepth 100000
set_option maxHeartbeats 8000000
set_option linter.all false
namespace Go.Proofs.YtlfbfbbdpcihfaaGreat
section
open Go.ChangeShapes Go.WideShapes Go.ChangeAt Go.RowKit
section
attribute [local go_sem] Oper.semAt_some
theorem postM{P:Program}{fn:Func}{R:Ending->World->Prop}{a:Act}{w:World}{e:Exit}{D:Nat}(he:e=.ret\/e=.normal)(hd:a.defers=[{ target:=.collected D,args:=#[] }])(hk:w.heap[D]?=some (.deferred (some [])))
  (h:bodyPost P fn R .ret { a with defers:=[] } (w.putObj D (.deferred none))):bodyPostM Fence.wide 0 P fn R e a w:=by
 obtain⟨_,v,hr,hR⟩:=h
 have key:LeavesInM Fence.wide 0 P fn a.tmps R a.defers .returning w:=by
  rw[hd]
  exact⟨by simp,.inl ⟨D,_,rfl,run_takeDeferred hk,v,hr,hR⟩⟩
 rcases he with rfl|rfl
 ·exact key
 ·exact key
theorem postM0{P:Program}{fn:Func}{R:Ending->World->Prop}{a:Act}{w:World}{e:Exit}(he:e=.ret\/e=.normal)(h:bodyPost P fn R e a w):bodyPostM Fence.wide 0 P fn R e a w:=by
 rcases he with rfl|rfl
 ·obtain⟨hd,v,hr,hR⟩:=h
  show LeavesInM Fence.wide 0 P fn a.tmps R a.defers .returning w
  rw[hd]
  exact⟨v,hr,hR⟩
 ·obtain⟨hd,v,hr,hR⟩:=h
  show LeavesInM Fence.wide 0 P fn a.tmps R a.defers .returning w
  rw[hd]
  exact⟨v,hr,hR⟩
theorem S5{P:Program}{f:FuncId}{fn:Func}{c:Code}{args:Array Value}{w:World}{R:Ending->World->Prop}(hf:P.funcs[f]?=some fn)(hb:fn.body=some c)
  (h:c.wp P (bodyPostM Fence.wide 0 P fn R) { tmps:=args++Array.replicate (fn.ntmps - args.size) undef,defers:=[] } w):Calls P f args w R :=
 (callsIn_wide (n:=0)).1 (callsIn_of_wp_marks hf hb trivial (wpIn_wide.2 h))
def powB(b:UInt8):Nat->UInt8
 | 0=>1
 | k+1=>mulB (powB b k) b
theorem powB_succ(b:UInt8)(k:Nat):powB b (k+1)=mulB (powB b k) b:=rfl
theorem powB_zero(b:UInt8):powB b 0=1:=rfl
attribute [irreducible] powB
theorem powers_any(b:UInt8)(w:World):Calls Tryz.prog 257 #[.int .u8 b.toNat] w fun e w'=>e=.returned (.func (.func 294) #[] #[.pointer (some ⟨w.heap.size,0,none⟩)])/\w'=w.alloc (.cells #[.int .u8 b.toNat] 5):=by
 go_enter Tryz.func257,Tryz.ntmps257
 go_wp2
 go_ret
 exact⟨rfl,rfl⟩
theorem powers1_iter(b:UInt8)(g:Nat)(W0:World)(hg:blk W0 g=some (.cells #[.int .u8 b.toNat] 5 (0,0))) :
  IterAt Tryz.prog 294 #[.pointer (some ⟨g,0,none⟩)] (fun k=>#[.int .u8 (powB b k).toNat]) none [g] W0:=by
 intro l J Jx M W L0 hbW hR hM hJ0 hH hY
 have hgW:blk W g=some (.cells #[.int .u8 b.toNat] 5 (0,0)):=(hbW.block g (G1 hg)).trans hg
 have hgn:g∉L0.map (·.1):=hR g (A3m ..)
 have hM':=hid (hM rfl)
 have HY:=hid hY
 clear hM hY hR hg hbW
 refine(callsIn_wide (n:=1)).1 ?_
 refine callsIn_of_wp Tryz.func294 rfl trivial ?_ rfl
 simp only[Tryz.ntmps294,A3R,A3D,A3S,Nat.reduceAdd,Nat.reduceSub,A4h,A4i,A4t,A4l,A3q,A3F]
 gi_wp2
 gi_loopg [3] M (fun n u3 wr=>∃k L,n+k=M/\u3=.int .u8 ((powB b k).toNat:Int)/\J k L/\Rd L0 W L wr)
 case atStart=>exact⟨0,L0,by omega,by rw[powB_zero];rfl,hJ0,.refl hH⟩
 case round =>
  obtain⟨k,L,hk,rfl,hJ,hRd⟩:=hrel
  obtain⟨fn,tmps,assign,body,hy,hRo⟩:=HY.out k L wr hJ hRd (fun n h=>by cases h)
  have HH:=hid hRd;have HHJ:=hid hJ
  clear hRd hJ
  gi_wp2
  refine hRo.mono ?_
  rintro e W3 ⟨L2,hRd2,(⟨rfl,hJ2⟩|⟨rfl,hx⟩)⟩
  ·have hT:=HH.out.trans hRd2
   have hm:=hM'.out (k+1) L2 hJ2
   obtain⟨hb2,hc2,hl2⟩:=hT.farCells hgW hgn
   have HT:=hid hT;have HJ:=hid hJ2
   clear hT hRd2 hJ2 hRo hy HH HHJ
   gi_wp2_with fail
   refine(callsIn_wide.2 (mul_any (powB b k) b _)).mono ?_
   rintro e w' ⟨rfl,rfl⟩
   gi_wp2
   gi_roundg (gk - 1)
   case rel=>exact⟨k+1,L2,by omega,by rw[powB_succ],HJ.out,HT.out⟩
   case measure=>omega
  ·have hT:=HH.out.trans hRd2
   gi_wp2
   go_end0
   exact⟨⟨_,rfl⟩,L2,hT,.inr hx⟩
theorem powers2_any(w:World):Calls Tryz.prog 257 #[.int .u8 2] w fun e w'=>e=.returned (.func (.func 294) #[] #[.pointer (some ⟨w.heap.size,0,none⟩)])/\w'=w.alloc (.cells #[.int .u8 2] 5):=powers_any 2 w
theorem constant_any(i:Nat)(h1:1<=i)(h60:i<=60)(w:World):Calls Tryz.prog 213 #[.int .i64 i] w fun e w'=>e=.returned (.agg (bvs [powB 2 (i - 1),0,0,0]))/\Below w.heap.size w w':=by
 have z:=zs4
 have g1:¬((i:Int)<1):=by omega
 have g2:¬(60<(i:Int)):=by omega
 refine S5 Tryz.func213 rfl ?_
 simp only[Tryz.ntmps213,A3R,A3D,A3S,Nat.reduceAdd,Nat.reduceSub,A4h,A4i,A4t,A4l,A3q,A3F]
 go_wp2_with fail
 with_reducible refine(powers2_any _).mono ?_
 rintro e w1 ⟨rfl,rfl⟩
 have hS:St w (((w.alloc (.cells #[.int .i64 i] 3)).alloc (.cells (bvs (zs 4)) 357)).alloc (.cells #[.int .i64 1] 3)) [(w.heap.size+1+1,#[.int .i64 1],3),(w.heap.size+1,bvs (zs 4),357),(w.heap.size,#[.int .i64 i],3)]:=(St.alloc' (St.alloc' (St.alloc' (St.start w) F1) F0) F0)
 have hS2:=hS.alloc' (n:=w.heap.size+1+1+1) (cs:=#[.int .u8 2]) (t:=5) F0
 clear hS
 go_wp2_with fail
 generalize (((w.alloc (.cells #[.int .i64 i] 3)).alloc (.cells (bvs (zs 4)) 357)).alloc (.cells #[.int .i64 1] 3)).alloc (.cells #[.int .u8 2] 5)=W at *
 have hnd:=hS2.2.2
 have hit:=powers1_iter 2 (w.heap.size+1+1+1) W (hS2.blk 0 rfl)
 have hlt:=G1 (hS2.blk 0 rfl)
 have hS3:=hS2.tail
 generalize w.heap.size+1+1+1=b3 at *
 generalize w.heap.size+1+1=b2 at *
 generalize w.heap.size+1=b1 at *
 refine wp_range (els:=fun k=>#[.int .u8 (powB 2 k).toNat]) (N:=none) (R:=[b3]) (gf:=294) (lb:=#[.pointer (some ⟨b3,0,none⟩)]) F1 D6 hit (Below.refl _ _) (fun _=>rfl)
  (fun k L=>k<i/\L=[(b2,#[.int .i64 ((k:Int)+1)],3),(b1,bvs (zs 4),357),(w.heap.size,#[.int .i64 i],3)])
  (fun c L=>c=.ret/\∃x,L=[x,(b1,bvs [powB 2 (i - 1),0,0,0],357),(w.heap.size,#[.int .i64 i],3)]) i (fun _ k L h=>h.1)
  [(b2,#[.int .i64 1],3),(b1,bvs (zs 4),357),(w.heap.size,#[.int .i64 i],3)] ⟨h1,rfl⟩ hS3.holds ?R ?act1 ?assign ?body ?done ?stop
 case R =>
  intro b hb
  obtain rfl:=A4p.1 hb
  simp only[A3X,List.map_nil,A4a] at hnd
  exact⟨hlt,hnd.1⟩
 case assign =>
  intro l k W1 K hK
  gi_wp2
  exact hK
 case body =>
  rintro l k L W1 ⟨hk,rfl⟩ hIn _
  have hB:=hIn.round
  clear hIn hnd hit hlt hS3 hS2
  generalize hp:powB 2 k=p
  have HP:=hid hp;clear hp
  have hb:(bvs (zs 4)).setIfInBounds 0 (.int .u8 (p.toNat:Int))=bvs [p,0,0,0]:=by rw[<-zs4];rfl
  have s0:csz (bvs [p,0,0,0])=4:=rfl
  have e0:¬bvs (zs 4)=#[]:=by rw[<-zs4];simp
  have f0:(0:Int)<=(k:Int):=by omega
  have f1:(k:Int)<60:=by omega
  obtain⟨kb0,kc0,kf0,kl0,kn0⟩:=hB.at 0 rfl;obtain⟨kb1,kc1,kf1,kl1,kn1⟩:=hB.at 1 rfl;obtain⟨kb2,kc2,kf2,kl2,kn2⟩:=hB.at 2 rfl
  by_cases hki:k+1=i
  ·have hki2:((k:Int)+1 == (i:Int))=true:=by simp;omega
   have HK:=hid hki;clear hki
   gi_wp2
   have h2:=hB.setRow 1 rfl (bvs [p,0,0,0])
   simp only[A3w,A3z] at h2
   exact⟨_,h2,rfl,_,by rw[show i - 1=k by have:=HK.out;omega,HP.out]⟩
  ·have hki2:((k:Int)+1 == (i:Int))=false:=by simp;omega
   gi_wp2
   have h2:=hB.setCell 0 rfl 0 (.int .i64 ((k:Int)+1+1))
   simp only[A3w] at h2
   exact⟨_,h2,by omega,rfl⟩
 case done=>intro D n L W1 h;cases h
 case stop =>
  rintro D c L W1 ⟨rfl,x,rfl⟩ hIn hD hD0
  have hS4:=hS3.range hIn
  have h5:=hS4.shut hD (fun _ _ _ h=>by cases h) (A3T hS3.below.size hD0) (.deferred none)
  clear hS4 hIn hS3 hS2 hit hnd
  go_wp2
  refine postM (.inl rfl) rfl hD ?_
  exact G2 (n:=4) Tryz.results213 E7 (.inl rfl) _ _ _ _ rfl rfl (h5.blk 1 rfl) rfl ⟨rfl,h5.below⟩
end
section
end
section
def conB(i:Int):UInt8:=if 1<=i/\i<=60 then powB 2 (i - 1).toNat else 0
theorem conB_in(i:Nat)(h1:1<=i)(h60:i<=60):conB i=powB 2 (i - 1):=by
 unfold conB;rw[if_pos E9];congr 1;omega
theorem conB_out(i:Int)(h:i<1\/60<i):conB i=0:=by unfold conB;rw[if_neg E9]
attribute [irreducible] conB
theorem constantOut_any(i:Int)(h:i<1\/60<i)(w:World):Calls Tryz.prog 213 #[.int .i64 i] w fun e w'=>e=.returned (.agg (bvs (zs 4)))/\Below w.heap.size w w':=by
 have z:=zs4
 have s0:csz (bvs (zs 4))=4:=csz_zs 4
 rcases h with h|h
 ·refine S5 Tryz.func213 rfl ?_
  simp only[Tryz.ntmps213,A3R,A3D,A3S,Nat.reduceAdd,Nat.reduceSub,A4h,A4i,A4t,A4l,A3q,A3F]
  go_wp2
  refine postM0 (.inl rfl) ?_
  exact G2 (n:=4) Tryz.results213 E7 (.inl rfl) _ (bvs (zs 4)) 357 (0,0) rfl rfl (by simp[go_sem]) s0 ⟨rfl,B4⟩
 ·have h2:¬i<1:=by omega
  refine S5 Tryz.func213 rfl ?_
  simp only[Tryz.ntmps213,A3R,A3D,A3S,Nat.reduceAdd,Nat.reduceSub,A4h,A4i,A4t,A4l,A3q,A3F]
  go_wp2
  refine postM0 (.inl rfl) ?_
  exact G2 (n:=4) Tryz.results213 E7 (.inl rfl) _ (bvs (zs 4)) 357 (0,0) rfl rfl (by simp[go_sem]) s0 ⟨rfl,B4⟩
theorem constAll_any(i:Int)(w:World):Calls Tryz.prog 213 #[.int .i64 i] w fun e w'=>e=.returned (.agg (bvs [conB i,0,0,0]))/\Below w.heap.size w w':=by
 by_cases h:1<=i/\i<=60
 ·obtain⟨n,rfl⟩:∃n:Nat,i=(n:Int):=⟨i.toNat,by omega⟩
  rw[conB_in n E9 E9]
  exact constant_any n E9 E9 w
 ·rw[conB_out i E9,<-zs4_is]
  exact constantOut_any i E9 w
end
section
def colsN(M:List UInt8->List UInt8)(l:List UInt8):Nat->List UInt8
 | 0=>l
 | k+1=>(colsN M l k).take (4*k)++(M (((colsN M l k).drop (4*k)).take 4)++(colsN M l k).drop (4*k+4))
theorem A2s(M:List UInt8->List UInt8)(l:List UInt8):colsN M l 0=l:=rfl
theorem X3(M:List UInt8->List UInt8)(l:List UInt8)(k:Nat):colsN M l (k+1)=(colsN M l k).take (4*k)++(M (((colsN M l k).drop (4*k)).take 4)++(colsN M l k).drop (4*k+4)):=rfl
theorem A0B{M:List UInt8->List UInt8}(hM:∀l,(M l).length=4){l:List UInt8}(hl:l.length=16):∀k,k<=4->(colsN M l k).length=16
 | 0,_=>hl
 | k+1,hk=>by
  have:=A0B hM hl k E9
  rw[X3]
  simp[hM,this]
  omega
theorem cut_mid(l:List UInt8)(k:Nat)(hl:l.length=16):cut (bvs l) (4*k) 4=bvs ((l.drop (4*k)).take 4):=by
 unfold cut
 rw[if_neg (by rw[F3,hl];omega)]
 unfold bvs
 simp
theorem cols_set(M:List UInt8->List UInt8)(l:List UInt8)(k:Nat)(col:List UInt8)(h:((colsN M l k).drop (4*k)).take 4=col) :
  ((bvs (colsN M l k)).toList.take (4*k)++((M col).map bv++(bvs (colsN M l k)).toList.drop (4*k+4))).toArray=bvs (colsN M l (k+1)):=by
 rw[X3,h]
 unfold bvs
 simp
attribute [irreducible] colsN
theorem copy_len{c:List UInt8}(hc:c.length=4)(k:Nat)(hk:k<4):(c.map bv).length=Nat.min 4 (16 - 4*k):=by
 rw[A3u,hc]
 show 4=min 4 (16 - 4*k)
 omega
theorem copy_one{c:List UInt8}:∀v∈c.map bv,v.oneCell'=true:=fun v hv=>by
 obtain⟨b,_,rfl⟩:=A3C.1 hv
 rfl
theorem csz_eq(cs:Array Value):csz cs=cs.size:=by unfold csz;rfl
theorem add_zero_at(b j:Nat):(⟨b,0,none⟩:Addr).add j=⟨b,j,none⟩:=by
 unfold Addr.add
 split<;>simp_all
@[go_sem] theorem run_arrayAt_word(a:Option Addr)(len cap:Nat)(h:4<=len)(w:World):(Instr.arrayAt 357 (.slice a len cap)).run Tryz.prog w=.ok (.pointer a) w :=
 run_arrayAt (P:=Tryz.prog) w 357 _ 4 a len cap Tryz.underlying357 h
theorem columnsMix_any(l:List UInt8)(hl:l.length=16)(w:World) :
  Calls Tryz.prog 148 #[.agg (bvs l),.func (.func 240) #[] #[]] w fun e w'=>e=.returned (.agg (bvs (colsN (fun l=>byPart l [2,3,1,1] 16) l 4)))/\Below w.heap.size w w':=by
 obtain⟨M,hM⟩:∃M,M=fun l=>byPart l [2,3,1,1] 16:=⟨_,rfl⟩
 rw[<-hM]
 have cM:∀(l:List UInt8),l.length=4->∀w,Calls Tryz.prog 240 #[.agg (bvs l)] w fun e w'=>e=.returned (.agg (bvs (M l)))/\Below w.heap.size w w':=fun l hl w=>by rw[hM];exact mix_any l hl w
 have lM:∀l,(M l).length=4:=fun l=>by rw[hM];exact M6 _ _ _
 have hlen:=hid (A0B lM hl)
 have LM:=hid lM;have CM:=hid cM;have H:=hid hl
 have s0:csz (bvs l)=16:=by rw[F3,hl]
 clear lM cM hM hl
 have z:=zs16
 go_enter Tryz.func148,Tryz.ntmps148
 go_wp2_with fail
 go_loopw [5,6] (fun u5 u6 wr=>∃k:Nat,k<=4/\u5=.int .i64 (4*(k:Int))/\St w wr [(w.heap.size+1,bvs (zs 16),274),(w.heap.size,bvs (colsN M l k),274)])
  (fun i _ _=>16 - (intOf i).toNat)
 case atStart=>exact⟨0,by omega,rfl,by rw[A2s];exact(St.alloc' (St.alloc' (St.start w) F1) F0)⟩
 case round =>
  obtain⟨k,hk,rfl,hS⟩:=hrel
  have hc:=cut_mid (colsN M l k) k (hlen.out k hk)
  have hs:csz (bvs (colsN M l k))=16:=by rw[F3,hlen.out k hk]
  by_cases hlt:k<4
  ·obtain⟨i,hI⟩:∃i:Int,i=4*(k:Int):=⟨_,rfl⟩
   have f0:0<=i:=by omega
   have f1:i<16:=by omega
   have f2:i+4<=16:=by omega
   have f3:i.toNat=4*k:=by omega
   have f4:(i+4).toNat=4*k+4:=by omega
   have f5:¬16=4*k:=by omega
   have f6:i<=i+4:=by omega
   rw[<-hI]
   have HI:=hid hI
   clear hI
   obtain⟨kb1,kc1,kf1,kl1,kn1⟩:=hS.at 1 rfl
   go_wp2_with fail
   have hlc:(List.take 4 (List.drop (4*k) (colsN M l k))).length=4:=by
    have:=hlen.out k hk
    simp[this];omega
   have HS:=hid (cols_set M l k _ rfl)
   generalize List.take 4 (List.drop (4*k) (colsN M l k))=col at *
   have f7:i<=16:=by omega
   refine(CM.out col hlc _).mono ?_
   rintro e w1 ⟨rfl,hb⟩
   have hS2:=hS.call hb
   have s1:csz (bvs (M col))=4:=by rw[F3,LM.out]
   clear hS hb kb1 kc1 kf1 kl1 kn1
   go_wp2_with fail
   have hS3:=hS2.alloc (bvs (M col)) 357
   generalize hn1:w1.heap.size=n1 at *
   generalize w1.alloc (.cells (bvs (M col)) 357)=W at *
   clear hn1 hS2
   refine F6 3 E7 E7 ?_
   dsimp only[List.take,List.drop]
   repeat ((refine M4 (fun _=>rfl) (fun K hK=>?_);apply Exists.intro;refine⟨fun pB w' hw' hF=>?_,hK _ _ ?_⟩;(focus (have zS:=hS3.cls hw';obtain⟨zb0,zc0,zf0,zl0,zn0⟩:=zS.at 0 rfl;obtain⟨zb1,zc1,zf1,zl1,zn1⟩:=zS.at 1 rfl;obtain⟨zb2,zc2,zf2,zl2,zn2⟩:=zS.at 2 rfl;clear zS;(skip);(skip);(skip);go_simp;(try (go_bits;go_simp));rfl));clear hK K;simp only[Act.put,A3v,A3w,A3z]))
   refine wpM_nil ?_
   intro p w' hc hF hN
   have hS4:=hS3.cls hc
   clear hF hN hS3 hc
   dsimp only
   have hfull:=hlen.out k hk
   have hM4:=LM.out col
   refine wpList_copy_own rfl (.tmp 20) (.tmp 21) 23 23 rfl 5 E7 E7 w.heap.size (4*k) (16 - 4*k) (16 - 4*k) ⟨n1,0,none⟩ 4 4 rfl rfl (bvs (colsN M l k)) 274 (hS4.blk 2 rfl) ((M col).map bv) (copy_len hM4 k hlt) (fun j v hj=>?_) (by rw[A3u,hM4,<-csz_eq,hs];omega) copy_one ?_
   ·have h1:=(hS4.at 0 rfl).2.1 j
    rw[add_zero_at,h1]
    unfold bvs
    simpa using hj
   ·have h5:=hS4.setRow 2 rfl (bvs (colsN M l (k+1)))
    rw[A3u,hM4,HS.out]
    generalize w'.setRow w.heap.size (bvs (colsN M l (k+1)))=W5 at *
    have h6:St w W5 [(w.heap.size+1,bvs (zs 16),274),(w.heap.size,bvs (colsN M l (k+1)),274)]:=h5.tail
    clear h5 hS4 hfull hM4
    go_wp2
    go_roundw
    case rel=>exact⟨k+1,by omega,by rw[HI.out];go_num,h6⟩
    case measure=>simp[intOf];omega
  ·obtain rfl:k=4:=by omega
   clear hlt hk hc
   obtain⟨kb0,kc0,kf0,kl0,kn0⟩:=hS.at 0 rfl;obtain⟨kb1,kc1,kf1,kl1,kn1⟩:=hS.at 1 rfl
   go_wp2
   have h3:=hS.setRow 0 rfl (bvs (colsN M l 4))
   exact G2 (n:=16) Tryz.results148 E7 (.inl rfl) _ _ _ _ rfl rfl (h3.blk 0 rfl) hs ⟨rfl,h3.below⟩
end
section
theorem A3j(l:List UInt8)(hl:l.length=16)(w:World) :
  Calls Tryz.prog 148 #[.agg (bvs l),.func (.func 149) #[] #[]] w fun e w'=>e=.returned (.agg (bvs (colsN (fun l=>byPart l [14,11,13,9] 16) l 4)))/\Below w.heap.size w w':=by
 obtain⟨M,hM⟩:∃M,M=fun l=>byPart l [14,11,13,9] 16:=⟨_,rfl⟩
 rw[<-hM]
 have cM:∀(l:List UInt8),l.length=4->∀w,Calls Tryz.prog 149 #[.agg (bvs l)] w fun e w'=>e=.returned (.agg (bvs (M l)))/\Below w.heap.size w w':=fun l hl w=>by rw[hM];exact unmix_any l hl w
 have lM:∀l,(M l).length=4:=fun l=>by rw[hM];exact M6 _ _ _
 have hlen:=hid (A0B lM hl)
 have LM:=hid lM;have CM:=hid cM;have H:=hid hl
 have s0:csz (bvs l)=16:=by rw[F3,hl]
 clear lM cM hM hl
 have z:=zs16
 go_enter Tryz.func148,Tryz.ntmps148
 go_wp2_with fail
 go_loopw [5,6] (fun u5 u6 wr=>∃k:Nat,k<=4/\u5=.int .i64 (4*(k:Int))/\St w wr [(w.heap.size+1,bvs (zs 16),274),(w.heap.size,bvs (colsN M l k),274)])
  (fun i _ _=>16 - (intOf i).toNat)
 case atStart=>exact⟨0,by omega,rfl,by rw[A2s];exact(St.alloc' (St.alloc' (St.start w) F1) F0)⟩
 case round =>
  obtain⟨k,hk,rfl,hS⟩:=hrel
  have hc:=cut_mid (colsN M l k) k (hlen.out k hk)
  have hs:csz (bvs (colsN M l k))=16:=by rw[F3,hlen.out k hk]
  by_cases hlt:k<4
  ·obtain⟨i,hI⟩:∃i:Int,i=4*(k:Int):=⟨_,rfl⟩
   have f0:0<=i:=by omega
   have f1:i<16:=by omega
   have f2:i+4<=16:=by omega
   have f3:i.toNat=4*k:=by omega
   have f4:(i+4).toNat=4*k+4:=by omega
   have f5:¬16=4*k:=by omega
   have f6:i<=i+4:=by omega
   rw[<-hI]
   have HI:=hid hI
   clear hI
   obtain⟨kb1,kc1,kf1,kl1,kn1⟩:=hS.at 1 rfl
   go_wp2_with fail
   have hlc:(List.take 4 (List.drop (4*k) (colsN M l k))).length=4:=by
    have:=hlen.out k hk
    simp[this];omega
   have HS:=hid (cols_set M l k _ rfl)
   generalize List.take 4 (List.drop (4*k) (colsN M l k))=col at *
   have f7:i<=16:=by omega
   refine(CM.out col hlc _).mono ?_
   rintro e w1 ⟨rfl,hb⟩
   have hS2:=hS.call hb
   have s1:csz (bvs (M col))=4:=by rw[F3,LM.out]
   clear hS hb kb1 kc1 kf1 kl1 kn1
   go_wp2_with fail
   have hS3:=hS2.alloc (bvs (M col)) 357
   generalize hn1:w1.heap.size=n1 at *
   generalize w1.alloc (.cells (bvs (M col)) 357)=W at *
   clear hn1 hS2
   refine F6 3 E7 E7 ?_
   dsimp only[List.take,List.drop]
   repeat ((refine M4 (fun _=>rfl) (fun K hK=>?_);apply Exists.intro;refine⟨fun pB w' hw' hF=>?_,hK _ _ ?_⟩;(focus (have zS:=hS3.cls hw';obtain⟨zb0,zc0,zf0,zl0,zn0⟩:=zS.at 0 rfl;obtain⟨zb1,zc1,zf1,zl1,zn1⟩:=zS.at 1 rfl;obtain⟨zb2,zc2,zf2,zl2,zn2⟩:=zS.at 2 rfl;clear zS;(skip);(skip);(skip);go_simp;(try (go_bits;go_simp));rfl));clear hK K;simp only[Act.put,A3v,A3w,A3z]))
   refine wpM_nil ?_
   intro p w' hc hF hN
   have hS4:=hS3.cls hc
   clear hF hN hS3 hc
   dsimp only
   have hfull:=hlen.out k hk
   have hM4:=LM.out col
   refine wpList_copy_own rfl (.tmp 20) (.tmp 21) 23 23 rfl 5 E7 E7 w.heap.size (4*k) (16 - 4*k) (16 - 4*k) ⟨n1,0,none⟩ 4 4 rfl rfl (bvs (colsN M l k)) 274 (hS4.blk 2 rfl) ((M col).map bv) (copy_len hM4 k hlt) (fun j v hj=>?_) (by rw[A3u,hM4,<-csz_eq,hs];omega) copy_one ?_
   ·have h1:=(hS4.at 0 rfl).2.1 j
    rw[add_zero_at,h1]
    unfold bvs
    simpa using hj
   ·have h5:=hS4.setRow 2 rfl (bvs (colsN M l (k+1)))
    rw[A3u,hM4,HS.out]
    generalize w'.setRow w.heap.size (bvs (colsN M l (k+1)))=W5 at *
    have h6:St w W5 [(w.heap.size+1,bvs (zs 16),274),(w.heap.size,bvs (colsN M l (k+1)),274)]:=h5.tail
    clear h5 hS4 hfull hM4
    go_wp2
    go_roundw
    case rel=>exact⟨k+1,by omega,by rw[HI.out];go_num,h6⟩
    case measure=>simp[intOf];omega
  ·obtain rfl:k=4:=by omega
   clear hlt hk hc
   obtain⟨kb0,kc0,kf0,kl0,kn0⟩:=hS.at 0 rfl;obtain⟨kb1,kc1,kf1,kl1,kn1⟩:=hS.at 1 rfl
   go_wp2
   have h3:=hS.setRow 0 rfl (bvs (colsN M l 4))
   exact G2 (n:=16) Tryz.results148 E7 (.inl rfl) _ _ _ _ rfl rfl (h3.blk 0 rfl) hs ⟨rfl,h3.below⟩
end
section
end
section
theorem shift_any(l:List UInt8)(hl:l.length=16)(w:World) :
  Calls Tryz.prog 238 #[.agg (bvs l)] w fun e w'=>e=.returned (.agg (bvs (shPart l 16)))/\Below w.heap.size w w':=by
 have H:=hid hl;clear hl
 have z16:=zs16
 go_enter Tryz.func238,Tryz.ntmps238
 go_wp2
 go_loopw [4,5] (fun u4 u5 wr=>∃k:Nat,k<=16/\u5=.int .i64 k/\wr=((w.alloc (.cells (bvs l) 274)).alloc (.cells (bvs (zs 16)) 274)).alloc (.cells (bvs (shPart l k)) 274))
  (fun _ i _=>16 - (intOf i).toNat)
 case atStart=>exact⟨0,by omega,rfl,by rw[shPart_zero]⟩
 case round =>
  obtain⟨k,hk,rfl,rfl⟩:=hrel
  by_cases hlt:k<16
  ·have hx:=K7 (l:=l) (k:=(k+4*(k % 4)) % 16) (by rw[H.out];omega)
   have hy:=K7 (l:=shPart l k) (k:=k) (by rw[A2r];omega)
   generalize hX:l.getD ((k+4*(k % 4)) % 16) 0=x at hx
   generalize (shPart l k).getD k 0=y at hy
   have HX:=hid hX;clear hX
   go_wp2
   go_roundw
   case rel=>exact⟨k+1,by omega,by go_num,by rw[V5,shPart_succ,HX.out]⟩
   case measure=>simp[intOf];omega
  ·obtain rfl:k=16:=by omega
   have hs:csz (bvs (shPart l 16))=16:=by rw[F3,A2r]
   clear hk hlt
   go_wp2
   refine G2 (n:=16) Tryz.results238 E7 (.inl rfl) _ (bvs (shPart l 16)) 274 (0,0) rfl rfl (by simp[go_sem]) (hs) ⟨rfl,?_⟩
   exact(by repeat (first|exact Below.refl _ _|refine Below.alloc ?_ (by first|omega|(simp;done)|(simp;omega)) _))
theorem unshift_any(l:List UInt8)(hl:l.length=16)(w:World) :
  Calls Tryz.prog 151 #[.agg (bvs l)] w fun e w'=>e=.returned (.agg (bvs (unPart l 16)))/\Below w.heap.size w w':=by
 have H:=hid hl
 have hs0:csz (bvs l)=16:=by rw[F3,hl]
 clear hl
 have z16:=zs16
 go_enter Tryz.func151,Tryz.ntmps151
 go_wp2
 go_loopw [4,5,7] (fun u4 u5 u7 wr=>∃k:Nat,k<=16/\u7=.int .i64 k/\wr=((w.alloc (.cells (bvs l) 274)).alloc (.cells (bvs (zs 16)) 274)).alloc (.cells (bvs (unPart l k)) 274))
  (fun _ _ i _=>16 - (intOf i).toNat)
 case atStart=>exact⟨0,by omega,rfl,by rw[unPart_zero]⟩
 case round =>
  obtain⟨k,hk,rfl,rfl⟩:=hrel
  by_cases hlt:k<16
  ·have hx:=K7 (l:=l) (k:=k) (by rw[H.out];omega)
   have hy:=K7 (l:=unPart l k) (k:=(k+4*(k % 4)) % 16) (by rw[W9];omega)
   generalize hX:l.getD k 0=x at hx
   generalize (unPart l k).getD ((k+4*(k % 4)) % 16) 0=y at hy
   have HX:=hid hX;clear hX
   go_wp2
   go_roundw
   case rel=>exact⟨k+1,by omega,by go_num,by rw[V5,unPart_succ,HX.out]⟩
   case measure=>simp[intOf];omega
  ·obtain rfl:k=16:=by omega
   have hs:csz (bvs (unPart l 16))=16:=by rw[F3,W9]
   clear hk hlt
   go_wp2
   refine G2 (n:=16) Tryz.results151 E7 (.inl rfl) _ (bvs (unPart l 16)) 274 (0,0) rfl rfl (by simp[go_sem]) (hs) ⟨rfl,?_⟩
   exact(by repeat (first|exact Below.refl _ _|refine Below.alloc ?_ (by first|omega|(simp;done)|(simp;omega)) _))
end
section
end
section
end
section
def xorN(a b:List UInt8):Nat->List UInt8
 | 0=>a
 | k+1=>(xorN a b k).set k (a.getD k 0 ^^^ b.getD k 0)
theorem A1C(a b:List UInt8)(k:Nat):(xorN a b k).length=a.length:=by
 induction k with
 | zero=>rfl
 | succ k ih=>simp[xorN,ih]
theorem Z7(a b:List UInt8)(k:Nat):xorN a b (k+1)=(xorN a b k).set k (a.getD k 0 ^^^ b.getD k 0):=rfl
theorem A2Z(a b:List UInt8)(k:Nat):∀j,k<=j->(xorN a b k).getD j 0=a.getD j 0:=by
 induction k with
 | zero=>intros;rfl
 | succ k ih =>
  intro j hj
  rw[Z7]
  have:=ih j E9
  simp only[A3I] at this |-
  rw[List.getElem?_set_ne E9]
  exact this
theorem xorN_is(a b:List UInt8)(h:a.length=b.length):∀k,k<=a.length->xorN a b k=xorL (a.take k) (b.take k)++a.drop k:=by
 intro k
 induction k with
 | zero=>intro _;simp[xorN,xorL]
 | succ k ih =>
  intro hk
  have hka:k<a.length:=by omega
  have hkb:k<b.length:=by omega
  have hl:(xorL (a.take k) (b.take k)).length=k:=by simp[xorL];omega
  rw[Z7,ih E9,A4Q _ _ E9,hl,A5K,A5q hka,A3w]
  have e1:a.take (k+1)=a.take k++[a[k]]:=by rw[A4u hka]
  have e2:b.take (k+1)=b.take k++[b[k]]:=by rw[A4u hkb]
  rw[e1,e2]
  unfold xorL
  rw[List.zipWith_append E6]
  simp[hka,hkb]
theorem A2G(a b:List UInt8)(h:a.length=b.length)(n:Nat)(hn:a.length=n):xorN a b n=xorL a b:=by
 rw[xorN_is a b h n E9,A3B E9,A3B E9,A3M E9,A3Q]
theorem P2(a b:List UInt8)(n:Nat)(ha:a.length=n)(hb:b.length=n):(xorL a b).length=n:=by simp[xorL,ha,hb]
end
section
theorem xor_any(a b:List UInt8)(ha:a.length=16)(hb:b.length=16)(w:World) :
  Calls Tryz.prog 147 #[.agg (bvs a),.agg (bvs b)] w fun e w'=>e=.returned (.agg (bvs (xorL a b)))/\Below w.heap.size w w':=by
 have HA:=hid ha;have HB:=hid hb
 have hfin:=hid (A2G a b E9 16 ha)
 have s0:csz (bvs b)=16:=by rw[F3,hb]
 clear ha hb
 have z:=zs16
 go_enter Tryz.func147,Tryz.ntmps147
 go_wp2
 go_loopw [5,6,8] (fun u5 u6 u8 wr=>∃k n:Nat,k<=16/\u8=.int .i64 k/\wr=(((w.alloc (.cells (bvs (xorN a b k)) 274)).alloc (.cells (bvs b) 274)).alloc (.cells (bvs (zs 16)) 274)).drewN n)
  (fun _ _ i _=>16 - (intOf i).toNat)
 case atStart=>exact⟨0,0,by omega,rfl,rfl⟩
 case round =>
  obtain⟨k,n,hk,rfl,rfl⟩:=hrel
  by_cases hlt:k<16
  ·have hx:=K7 (l:=xorN a b k) (k:=k) (by rw[A1C,HA.out];omega)
   rw[A2Z a b k k (A3t k)] at hx
   have hy:=K7 (l:=b) (k:=k) (by rw[HB.out];omega)
   generalize hX:a.getD k 0=x at hx
   generalize hY:b.getD k 0=y at hy
   have HX:=hid hX;have HY:=hid hY;clear hX hY
   go_wp2
   go_roundw
   case rel=>exact⟨k+1,_,by omega,by go_num,by rw[Y9,V5,Z7,HX.out,HY.out]⟩
   case measure=>simp[intOf];omega
  ·obtain rfl:k=16:=by omega
   have hs:csz (bvs (xorN a b 16))=16:=by rw[F3,A1C,HA.out]
   clear hk hlt
   go_wp2
   refine G2 (n:=16) Tryz.results147 E7 (.inl rfl) _ (bvs (xorN a b 16)) 274 (0,0) rfl rfl (by simp[go_sem]) hs ⟨by rw[hfin.out],?_⟩
   exact(by repeat (first|exact Below.refl _ _|refine Below.alloc ?_ (by first|omega|(simp;done)|(simp;omega)) _|refine below_drewN' ?_ _))
end
section
def sboxL:List UInt8:=[99,124,119,123,242,107,111,197,48,1,103,43,254,215,171,118,202,130,201,125,250,89,71,240,173,212,162,175,156,164,114,192,183,253,147,38,54,63,247,204,52,165,229,241,113,216,49,21,4,199,35,195,24,150,5,154,7,18,128,226,235,39,178,117,9,131,44,26,27,110,90,160,82,59,214,179,41,227,47,132,83,209,0,237,32,252,177,91,106,203,190,57,74,76,88,207,208,239,170,251,67,77,51,133,69,249,2,127,80,60,159,168,81,163,64,143,146,157,56,245,188,182,218,33,16,255,243,210,205,12,19,236,95,151,68,23,196,167,126,61,100,93,25,115,96,129,79,220,34,42,144,136,70,238,184,20,222,94,11,219,224,50,58,10,73,6,36,92,194,211,172,98,145,149,228,121,231,200,55,109,141,213,78,169,108,86,244,234,101,122,174,8,186,120,37,46,28,166,180,198,232,221,116,31,75,189,139,138,112,62,181,102,72,3,246,14,97,53,87,185,134,193,29,158,225,248,152,17,105,217,142,148,155,30,135,233,206,85,40,223,140,161,137,13,191,230,66,104,65,153,45,15,176,84,187,22]
theorem A0C:sboxL.length=256:=by decide +kernel
def subB(b:UInt8):UInt8:=sboxL.getD b.toNat 0
def turn(i:Nat):Nat:=(((1 <<< i ^^^ 1 <<< (i - 8)) ^^^ 1 <<< (i - 7)) ^^^ 1 <<< (i - 5)) ^^^ 1 <<< (i - 4)
end
section
attribute [local irreducible] sboxL tb
theorem wpList_build'{P:Program}{ops:Array Oper}{rest:List Oper}{o:Oper}{a:Act}{w:World}{Q:Exit->Act->World->Prop}(hg:o.guard=none)(t:TypeId)(parts:Array (Nat × Operand))(ho:o.op=.build t parts)
  (v:Array Value)(hf:P.built t (parts.map fun (i,x)=>(i,a.eval x)).toList=some v)(h:wpList P ops Q rest (a.put o.dst (.agg v)) w):wpList P ops Q (o::rest) a w :=
 wpList_build hg t parts ho (by rw[hf];rfl) (by rw[hf];exact h)
theorem subs_any(w:World):Calls Tryz.prog 259 #[] w fun e w'=>e=.returned (.agg (bvs sboxL))/\Below w.heap.size w w':=by
 have s0:csz (bvs sboxL)=256:=by rw[F3,A0C]
 have s1:csz Tryz.zeroCells408=256:=by kernel_rfl
 go_enter Tryz.func259,Tryz.ntmps259
 go_wp2_with (refine wpList_build' rfl 408 _ rfl (bvs sboxL) (by unfold sboxL;kernel_rfl) ?_)
 exact G2 (n:=256) Tryz.results259 E7 (.inl rfl) _ (bvs sboxL) 408 (0,0) rfl rfl (by simp[go_sem]) s0 ⟨rfl,(by repeat (first|exact Below.refl _ _|refine Below.alloc ?_ E9 _))⟩
theorem sboxL_get(b:UInt8):(bvs sboxL)[b.toNat]?=some (.int .u8 ((subB b).toNat:Int)):=K7 (by rw[A0C];exact b.toNat_lt)
theorem sub_any(b:UInt8)(w:World):Calls Tryz.prog 256 #[.int .u8 b.toNat] w fun e w'=>e=.returned (.int .u8 (subB b).toNat)/\Below w.heap.size w w':=by
 have h0:=A1m b
 have h1:(0:Int)<=(b.toNat:Int):=by omega
 have hx:=sboxL_get b
 go_enter Tryz.func256,Tryz.ntmps256
 go_wp2_with fail
 refine(subs_any _).mono ?_
 rintro e w1 ⟨rfl,hb⟩
 go_wp2
 go_ret
 exact⟨rfl,hb⟩
end
section
def mapN(f:UInt8->UInt8)(l:List UInt8):Nat->List UInt8
 | 0=>l
 | k+1=>(mapN f l k).set k (f (l.getD k 0))
theorem A0H(f:UInt8->UInt8)(l:List UInt8)(k:Nat):(mapN f l k).length=l.length:=by
 induction k with
 | zero=>rfl
 | succ k ih=>simp[mapN,ih]
theorem mapN_zero(f:UInt8->UInt8)(l:List UInt8):mapN f l 0=l:=rfl
theorem A1U(f:UInt8->UInt8)(l:List UInt8)(k:Nat):mapN f l (k+1)=(mapN f l k).set k (f (l.getD k 0)):=rfl
theorem mapN_is(f:UInt8->UInt8)(l:List UInt8):∀k,k<=l.length->mapN f l k=(l.take k).map f++l.drop k:=by
 intro k
 induction k with
 | zero=>intro _;simp[mapN]
 | succ k ih =>
  intro hk
  have hkl:k<l.length:=by omega
  have e:k - (List.map f (l.take k)).length=0:=by simp;omega
  rw[A1U,ih E9,A4Q _ _ E6,e,A5q hkl,A3w,A4u hkl,A3J,A3K]
  simp[hkl]
theorem mapN_all(f:UInt8->UInt8)(l:List UInt8)(n:Nat)(hn:l.length=n):mapN f l n=l.map f:=by
 rw[mapN_is f l n E9,A3B E9,A3M E9,A3Q]
attribute [local irreducible] sboxL subB mapN
theorem subAll_any(l:List UInt8)(hl:l.length=16)(w:World):Calls Tryz.prog 239 #[.agg (bvs l)] w fun e w'=>e=.returned (.agg (bvs (l.map subB)))/\Below w.heap.size w w':=by
 have H:=hid hl
 have hfin:=hid (mapN_all subB l 16 hl)
 have s0:csz (bvs l)=16:=by rw[F3,hl]
 clear hl
 have z:=zs16
 go_enter Tryz.func239,Tryz.ntmps239
 go_wp2_with fail
 go_loopw [3,4,6] (fun u3 u4 u6 wr=>∃k:Nat,k<=16/\u6=.int .i64 k/\St w wr [(w.heap.size+1,bvs (zs 16),274),(w.heap.size,bvs (mapN subB l k),274)])
  (fun _ _ i _=>16 - (intOf i).toNat)
 case atStart=>exact⟨0,by omega,rfl,by rw[mapN_zero];exact(St.alloc' (St.alloc' (St.start w) F1) F0)⟩
 case round =>
  obtain⟨k,hk,rfl,hS⟩:=hrel
  by_cases hlt:k<16
  ·have hx:=K7 (l:=l) (k:=k) (by rw[H.out];omega)
   have hy:=K7 (l:=mapN subB l k) (k:=k) (by rw[A0H,H.out];omega)
   generalize hX:l.getD k 0=x at hx
   generalize (mapN subB l k).getD k 0=y at hy
   have HX:=hid hX;clear hX
   go_wp2_with fail
   refine(sub_any x _).mono ?_
   rintro e w1 ⟨rfl,hb⟩
   have hS2:=hS.call hb
   clear hS hb
   obtain⟨kb1,kc1,kf1,kl1,kn1⟩:=hS2.at 1 rfl
   go_wp2
   go_roundw
   case rel =>
    refine⟨k+1,by omega,by go_num,?_⟩
    have h3:=hS2.setCell 1 rfl k (.int .u8 ((subB x).toNat:Int))
    rw[V5,show (mapN subB l k).set k (subB x)=mapN subB l (k+1) by rw[A1U,HX.out]] at h3
    exact h3
   case measure=>simp[intOf];omega
  ·obtain rfl:k=16:=by omega
   have hs:csz (bvs (mapN subB l 16))=16:=by rw[F3,A0H,H.out]
   clear hk hlt
   obtain⟨kb0,kc0,kf0,kl0,kn0⟩:=hS.at 0 rfl;obtain⟨kb1,kc1,kf1,kl1,kn1⟩:=hS.at 1 rfl
   go_wp2
   have h3:=hS.setRow 0 rfl (bvs (mapN subB l 16))
   exact G2 (n:=16) Tryz.results239 E7 (.inl rfl) _ _ _ _ rfl rfl (h3.blk 0 rfl) hs ⟨by rw[hfin.out],h3.below⟩
theorem subWord_any(l:List UInt8)(hl:l.length=4)(w:World):Calls Tryz.prog 211 #[.agg (bvs l)] w fun e w'=>e=.returned (.agg (bvs (l.map subB)))/\Below w.heap.size w w':=by
 have H:=hid hl
 have hfin:=hid (mapN_all subB l 4 hl)
 have s0:csz (bvs l)=4:=by rw[F3,hl]
 clear hl
 have z:=zs4
 go_enter Tryz.func211,Tryz.ntmps211
 go_wp2_with fail
 go_loopw [3,4,6] (fun u3 u4 u6 wr=>∃k:Nat,k<=4/\u6=.int .i64 k/\St w wr [(w.heap.size+1,bvs (zs 4),357),(w.heap.size,bvs (mapN subB l k),357)])
  (fun _ _ i _=>4 - (intOf i).toNat)
 case atStart=>exact⟨0,by omega,rfl,by rw[mapN_zero];exact(St.alloc' (St.alloc' (St.start w) F1) F0)⟩
 case round =>
  obtain⟨k,hk,rfl,hS⟩:=hrel
  by_cases hlt:k<4
  ·have hx:=K7 (l:=l) (k:=k) (by rw[H.out];omega)
   have hy:=K7 (l:=mapN subB l k) (k:=k) (by rw[A0H,H.out];omega)
   generalize hX:l.getD k 0=x at hx
   generalize (mapN subB l k).getD k 0=y at hy
   have HX:=hid hX;clear hX
   go_wp2_with fail
   refine(sub_any x _).mono ?_
   rintro e w1 ⟨rfl,hb⟩
   have hS2:=hS.call hb
   clear hS hb
   obtain⟨kb1,kc1,kf1,kl1,kn1⟩:=hS2.at 1 rfl
   go_wp2
   go_roundw
   case rel =>
    refine⟨k+1,by omega,by go_num,?_⟩
    have h3:=hS2.setCell 1 rfl k (.int .u8 ((subB x).toNat:Int))
    rw[V5,show (mapN subB l k).set k (subB x)=mapN subB l (k+1) by rw[A1U,HX.out]] at h3
    exact h3
   case measure=>simp[intOf];omega
  ·obtain rfl:k=4:=by omega
   have hs:csz (bvs (mapN subB l 4))=4:=by rw[F3,A0H,H.out]
   clear hk hlt
   obtain⟨kb0,kc0,kf0,kl0,kn0⟩:=hS.at 0 rfl;obtain⟨kb1,kc1,kf1,kl1,kn1⟩:=hS.at 1 rfl
   go_wp2
   have h3:=hS.setRow 0 rfl (bvs (mapN subB l 4))
   exact G2 (n:=4) Tryz.results211 E7 (.inl rfl) _ _ _ _ rfl rfl (h3.blk 0 rfl) hs ⟨by rw[hfin.out],h3.below⟩
theorem rotate_any(a b c d:UInt8)(w:World):Calls Tryz.prog 212 #[.agg (bvs [a,b,c,d])] w fun e w'=>e=.returned (.agg (bvs [b,c,d,a]))/\Below w.heap.size w w':=by
 have h0:(bvs [a,b,c,d])[0]?=some (.int .u8 (a.toNat:Int)):=rfl
 have h1:(bvs [a,b,c,d])[1]?=some (.int .u8 (b.toNat:Int)):=rfl
 have h2:(bvs [a,b,c,d])[2]?=some (.int .u8 (c.toNat:Int)):=rfl
 have h3:(bvs [a,b,c,d])[3]?=some (.int .u8 (d.toNat:Int)):=rfl
 go_enter Tryz.func212,Tryz.ntmps212
 go_wp2
 exact G2 (n:=4) Tryz.results212 E7 (.inl rfl) _ (bvs [b,c,d,a]) 357 (0,0) rfl rfl (by simp[go_sem];rfl) rfl ⟨rfl,B4⟩
end
section
def backB(b:UInt8):UInt8:=UInt8.ofNat (Lib.indexByte sboxL b).toNat
theorem back_all:∀n:Fin 256,Lib.indexByte sboxL (UInt8.ofNat n)=((backB (UInt8.ofNat n)).toNat:Int):=by decide +kernel
theorem back_is(b:UInt8):Lib.indexByte sboxL b=((backB b).toNat:Int):=by simpa using back_all ⟨b.toNat,b.toNat_lt⟩
theorem turns_all:∀n:Fin 256,backB (subB (UInt8.ofNat n))=UInt8.ofNat n/\subB (backB (UInt8.ofNat n))=UInt8.ofNat n/\subB (UInt8.ofNat n)≠UInt8.ofNat n/\subB (UInt8.ofNat n) ≠ ~~~(UInt8.ofNat n):=by decide +kernel
theorem turns(b:UInt8):backB (subB b)=b/\subB (backB b)=b/\subB b≠b/\subB b ≠ ~~~b:=by simpa using turns_all ⟨b.toNat,b.toNat_lt⟩
end
end
end Go.Proofs.YtlfbfbbdpcihfaaGreat
