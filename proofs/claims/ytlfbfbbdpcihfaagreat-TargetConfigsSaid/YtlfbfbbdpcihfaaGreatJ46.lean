/- Laws that the claim uses. No condition of their own. -/
import Derived.Test.YtlfbfbbdpcihfaaGreatJ45
set_option maxRecDepth 100000
set_option maxHeartbeats 8000000
set_option linter.all false
namespace Go.Proofs.YtlfbfbbdpcihfaaGreat
section
open Go.ChangeShapes Go.WideShapes Go.ChangeAt Go.RowKit
attribute [local irreducible] wpList wpListIn Oper.quietAt wpM
open Go.Maps
open PK (okI)
attribute [local irreducible] shaL tagL
theorem tnew_bad(C:Cf)(hl:C.secs.length<=1000)(hg:goodC C=false)(v:Value)(w0:World)(hv:CfgAt w0 v C) :
  Calls Tryz.prog 5 #[v] w0 fun e w'=>e=.returned (.tuple #[.pointer none,.iface 48 (.int .i64 2)])/\Below w0.heap.size w0 w':=by
 have hS:=St.start w0
 have hch:=fun w h=>PK.check_any C hl v w h
 simp only[hg,Bool.false_eq_true,if_false] at hch
 have hvb:=fun (w:World) (hb:Below w0.heap.size w0 w)=>CfgAt.below hv hb
 obtain⟨sv,mv,dv,rfl,q⟩:=id hv
 go_enter Tryz.func5,Tryz.ntmps5
 repeat' (first|refine Zasm ?_|(refine Zks ?_;clear hS;intro b w hS)|(refine Zll ?_;(refine g_calls hS (hch _ (hvb _ hS.below)) ?_;clear hS;intro w hS))|(refine Zg ?_;go_step)|fail)
 go_ret2
 exact⟨rfl,hS.below⟩
theorem A2p{P:Program}{o:Oper}{a:Act}{w W:World}{t e size bytes len:Nat}{parts:Array (Nat × Operand)}{vs cells:List Value}(hB:Cls W w)(hop:o.op=.buildSlice t len parts)(hp:evi a 0 parts.toList=some vs)(hT:SlT P t e size bytes)(hl:parts.toList.length=len)(h1:∀v∈vs,v.cells.size=size)(hc:(vs.flatMap fun v=>v.cells.toList)=cells)(hlen:len*size<=2 ^ 24)(hpos:0<len):MV.yieldsAt P o a (fun v w''=>PhB W.heap.size len e (fun c cs=>c=len/\cs=cells.toArray) v w''/\Below w.heap.size w w'') w:=by
 unfold MV.yieldsAt
 rw[Q3 hop hp hT hl h1 hc hlen hpos]
 exact⟨⟨w.heap.size,len,_,rfl,hB.size,by rw[P5];exact if_pos rfl,rfl,rfl⟩,(Below.refl _ _).alloc (A3t _) _⟩
theorem tg_built(P:Nat)(a b c:Int)(s m d r:Value)(hs:∃p n k,s=.slice p n k)(hm:∃p n k,m=.slice p n k)(hd:∃p n k,d=.slice p n k)(hr:∃p n k,r=.slice p n k):Tryz.prog.built 80 [(0,.agg #[.pointer (some ⟨P,0,none⟩)]),(1,.agg #[.int .i64 a,.int .i64 b,.int .i64 c,s,m,d]),(3,r)]=some #[.pointer (some ⟨P,0,none⟩),.int .i64 a,.int .i64 b,.int .i64 c,s,m,d,.slice none 0 0,r,.int .i64 0]:=by
 obtain⟨_,_,_,rfl⟩:=hs
 obtain⟨_,_,_,rfl⟩:=hm
 obtain⟨_,_,_,rfl⟩:=hd
 obtain⟨_,_,_,rfl⟩:=hr
 kernel_rfl
theorem disk_built(P:Nat):Tryz.prog.built 76 [(0,.pointer (some ⟨P,0,none⟩))]=some #[.pointer (some ⟨P,0,none⟩)]:=by kernel_rfl
def OneK(c:Nat)(cs:Array Value):Prop:=c=1/\cs=#[.int .i64 4]
theorem one_of{B:Nat}{v:Value}{w:World}(h:PhB B 1 3 OneK v w):∃b ty fr,v=.slice (some ⟨b,0,none⟩) 1 1/\blk w b=some (.cells #[.int .i64 4] ty fr):=by
 obtain⟨b,c,cs,rfl,_,hb,rfl,rfl⟩:=h
 exact⟨b,_,_,rfl,hb⟩
def BytL(L:List Blk)(v:Value)(l:List UInt8):Prop:=∃(g c:Nat)(sp:List Value),v=.slice (some ⟨g,0,none⟩) l.length c/\l.length<=c/\(g,(l.map bv++sp).toArray,5)∈L
theorem BytL.mono{L L':List Blk}{v:Value}{l:List UInt8}(h:BytL L v l)(hL:∀x∈L,x∈L'):BytL L' v l:=by
 obtain⟨g,c,sp,h1,h2,h3⟩:=h
 exact⟨g,c,sp,h1,h2,hL _ h3⟩
theorem BytL.at{w0 w:World}{L:List Blk}{v:Value}{l:List UInt8}(h:BytL L v l)(hS:St w0 w L):BytesAt w v l:=by
 obtain⟨g,c,sp,rfl,h2,h3⟩:=h
 exact F8 (pre:=[]) (off:=0) (hS.2.1 _ h3).2 rfl rfl rfl h2
def SecC(l:List Sx)(w0:World)(k:Nat)(CS:Array Value)(Lr:List Blk):Prop:=∀(i:Nat)(a m:Int)(x y:List UInt8),l[i]?=some (a,m,x,y)->∃xv yv,CS[i*4]?=some (.int .i64 a)/\CS[i*4+1]?=some (.int .i64 m)/\CS[i*4+2]?=some xv/\CS[i*4+3]?=some yv/\(i<k->BytL Lr xv x/\BytL Lr yv y)/\(k<=i->BytesAt w0 xv x/\BytesAt w0 yv y)
def SecP(l:List Sx)(w0:World)(k:Nat)(p:Option Addr)(Ls:List Blk):Prop:=l=[]\/∃g CS Lr,p=some ⟨g,0,none⟩/\Ls=(g,CS,71)::Lr/\SecC l w0 k CS Lr
theorem SecC.next{l:List Sx}{w0:World}{k:Nat}{CS:Array Value}{Lr Lr':List Blk}(h:SecC l w0 k CS Lr)(hL:∀x∈Lr,x∈Lr'){a m:Int}{x y:List UInt8}(hk:l[k]?=some (a,m,x,y)){xv yv:Value}(hx:BytL Lr' xv x)(hy:BytL Lr' yv y):SecC l w0 (k+1) ((CS.setIfInBounds (k*4+2) xv).setIfInBounds (k*4+3) yv) Lr':=fun i a2 m2 x2 y2 hi=>by
 obtain⟨xv2,yv2,h1,h2,h3,h4,h5,h6⟩:=h i a2 m2 x2 y2 hi
 have z1:=(A3y.1 h1).1
 have z2:=(A3y.1 h2).1
 have z3:=(A3y.1 h3).1
 have z4:=(A3y.1 h4).1
 have hs:∀j u,j<CS.size->j≠k*4+2->j≠k*4+3->CS[j]?=some u->((CS.setIfInBounds (k*4+2) xv).setIfInBounds (k*4+3) yv)[j]?=some u:=fun j u hj n1 n2 hu=>by
  rw[A4r (Ne.symm n2),A4r (Ne.symm n1)];exact hu
 by_cases hik:i=k
 ·subst hik
  rw[hk] at hi
  cases hi
  refine⟨xv,yv,hs _ _ z1 E9 E9 h1,hs _ _ z2 E9 E9 h2,?_,?_,fun _=>⟨hx,hy⟩,fun h=>absurd h E9⟩
  ·rw[A4r E9,A4O z3]
  ·rw[A4O (by rw[Array.size_setIfInBounds];exact z4)]
 ·refine⟨xv2,yv2,hs _ _ z1 E9 E9 h1,hs _ _ z2 E9 E9 h2,hs _ _ z3 E9 E9 h3,hs _ _ z4 E9 E9 h4,fun h=>?_,fun h=>h6 E9⟩
  obtain⟨q1,q2⟩:=h5 E9
  exact⟨q1.mono hL,q2.mono hL⟩
theorem SecP.at{l:List Sx}{w0 w1 w:World}{k c:Nat}{p:Option Addr}{Ls:List Blk}(h:SecP l w0 k p Ls)(hk:l.length<=k)(hc:l.length<=c)(hp:p=none->c=0)(hl:∀(i:Nat)(a m:Int)(x y:List UInt8),l[i]?=some (a,m,x,y)->okI a/\okI m/\x.length<=maxLen/\y.length<=maxLen)(hS:St w1 w Ls):SecAt w (.slice p l.length c) l:=by
 rcases h with rfl|⟨g,CS,Lr,rfl,rfl,hC⟩
 ·exact⟨[],fun i a m x y h=>by simp at h,p,c,rfl,hc,hp,fun h=>absurd rfl h⟩
 ·have hS2:St w1 w Lr:=own_st.drop hS
  refine⟨(List.range l.length).map fun i=>((CS[i*4+2]?).getD undef,(CS[i*4+3]?).getD undef),fun i a m x y hi=>?_,_,c,rfl,hc,hp,fun _=>⟨g,0,CS,_,_,rfl,hS.blk 0 rfl,fun i a m x y sv tv hi hv=>?_⟩⟩
  ·obtain⟨xv,yv,h1,h2,h3,h4,h5,_⟩:=hC i a m x y hi
   have hil:=(A3n.1 hi).1
   obtain⟨q1,q2⟩:=h5 E9
   obtain⟨o1,o2,o3,o4⟩:=hl i a m x y hi
   exact⟨xv,yv,by rw[A3N,A5E hil,A4I,h3,h4];rfl,q1.at hS2,q2.at hS2,o1,o2,o3,o4⟩
  ·obtain⟨xv,yv,h1,h2,h3,h4,h5,_⟩:=hC i a m x y hi
   have hil:=(A3n.1 hi).1
   rw[A3N,A5E hil,A4I,h3,h4] at hv
   cases hv
   rw[A3x]
   exact⟨h1,h2,h3,h4⟩
def Tgt(rd rdp:Rdr)(w1:World)(C:Cf)(n:Nat)(tick:Int)(T:Nat)(w:World):Prop:=∃(g:G4)(TA:Nat)(CS:Array Value)(X Q B:Nat->Nat)(su:List UInt8)(co:List Int)(Lx:List Blk)(nn:Nat)(D:DataW Unit)(sv mv dv rv:Value),csz CS=n/\Dk rd w1 g Fon (117*n) su [] co w ((T,tgC g.P C sv mv dv (.slice (some ⟨TA,0,none⟩) n n) rv tick,80)::(TA,CS,83)::Lx)/\(∀t,t<n->CS[t]?=some (.pointer (some ⟨X t,0,none⟩))/\Ten C g (117*n) su Lx t (X t) (Q t) (B t))/\MP.mapAt rdp w (B (n - 1)) nn D/\SesOk C (n - 1) C.secs.length D Lx
theorem tnew_ok{rd rdp:Rdr}(hrd:RdCel rd)(hrp:RdPtr rdp)(C:Cf)(hg:goodC C=true)(v:Value)(w0:World)(hv:CfgAt w0 v C){n:Nat}(hn:C.n=(n:Int)) :
  Calls Tryz.prog 5 #[v] w0 fun e w'=>∃w1 T,e=.returned (.tuple #[.pointer (some ⟨T,0,none⟩),.nilIface])/\Below w0.heap.size w0 w1/\Tgt rd rdp w1 C n 0 T w':=by
 have hS:=St.start w0
 obtain⟨g1,g2,g3,g4,g5,g6⟩:=good_all hg
 have hn3:1<=n/\n<=3:=by omega
 have hch:=fun w h=>PK.check_any C E9 v w h
 simp only[hg,if_true] at hch
 have hvb:=fun (w:World) (hb:Below w0.heap.size w0 w)=>CfgAt.below hv hb
 obtain⟨sv,mv,dv,rfl,hsv,hmv,hdv,r⟩:=id hv
 obtain⟨p1,d1,rfl,_⟩:=id hmv.slice
 obtain⟨p3,d3,rfl⟩:∃p c,sv=.slice p C.secs.length c:=by obtain⟨_,_,p,c,h,_⟩:=hsv;exact⟨p,c,h⟩
 obtain⟨p2,d2,rfl⟩:∃p c,dv=.slice p C.seeds.length c:=by obtain⟨p,c,h,_⟩:=hdv;exact⟨p,c,h⟩
 have hne1:C.master≠[]:=by intro e;rw[e] at g4;simp at g4
 have hne2:C.seeds≠[]:=by intro e;rw[e] at g5;simp at g5;omega
 have hlim:∀(i:Nat)(a m:Int)(x y:List UInt8),C.secs[i]?=some (a,m,x,y)->okI a/\okI m/\x.length<=maxLen/\y.length<=maxLen:=fun i a m x y hi=>by
  obtain⟨vs,hvs,_⟩:=hsv
  obtain⟨_,_,_,_,_,q⟩:=hvs i a m x y hi
  exact q
 go_enter Tryz.func5,Tryz.ntmps5
 repeat' (first|refine Zasm ?_|(refine Zks ?_;clear hS;intro b w hS)|(refine Zll ?_;(refine g_calls hS (hch _ (hvb _ hS.below)) ?_;clear hS;intro w hS))|(refine Zg ?_;go_step)|fail)
 clear hch
 obtain⟨bc,hbc⟩:∃x,x=b:=⟨_,rfl⟩
 rw[<-hbc] at hS |-
 clear hbc
 have hS0:=hS
 rename World=>wq
 refine MV.region_val_lit 7 E7 E7 ?_
 dsimp only[List.take,List.drop]
 iterate 7 (first|refine ZV ?_|refine ZVs ?_|(refine MV.wpV_same (PhB wq.heap.size C.master.length 5 (BytK C.master)) (O7) (fun _=>rfl) (fun bb w' hw' hF=>?_) ?_;(focus (have hZ:=(own_st).call hS hw';exact MV.yields_call (T5 (cloneK _ C.master hne1 E9 _ (hmv.below hZ.below)) hw')));refine Zo ?_)|(refine MV.wpV_same (PhB wq.heap.size C.seeds.length 3 (IntsK C.seeds)) (O7) (fun _=>rfl) (fun bb w' hw' hF=>?_) ?_;(focus (have hZ:=(own_st).call hS hw';exact MV.yields_call (T5 (cloneI _ C.seeds hne2 E9 _ (hdv.below hZ.below)) hw')));refine Zo ?_))
 refine MV.wpV_nil ?_
 intro bb w hcq hfq
 replace hS:=(own_st).call hS hcq
 try dsimp only
 have fX:=hfq (2,PhB wq.heap.size C.master.length 5 (BytK C.master)) F0
 have fY:=hfq (5,PhB wq.heap.size C.seeds.length 3 (IntsK C.seeds)) F0
 dsimp only at fX fY
 obtain⟨X1,hX1⟩:∃x,bb (0+1+1)=x:=⟨_,rfl⟩
 obtain⟨Y1,hY1⟩:∃x,bb (0+1+1+1+1+1)=x:=⟨_,rfl⟩
 rw[hX1,hY1]
 rw[show bb 2=X1 from hX1] at fX
 rw[show bb 5=Y1 from hY1] at fY
 clear hfq hX1 hY1 hcq
 obtain⟨gm,cm,csm,rfl,q1,q2,q3,spm,rfl⟩:=fX
 obtain⟨gd,cd,csd,rfl,q4,q5,q6,spd,rfl⟩:=fY
 have hne:gm≠gd:=fun e=>by subst e;rw[q2] at q5;simp at q5
 replace hS:=Own.takes own_st hS hS0 [(gm,(C.master.map bv++spm).toArray,5),(gd,(C.seeds.map (Value.int .i64)++spd).toArray,3)] (by simp[hne]) (fun z hz=>by
  rcases A3G.1 hz with rfl|hz
  ·exact⟨q1,q2⟩
  ·rcases A3G.1 hz with rfl|hz
   ·exact⟨q4,q5⟩
   ·cases hz)
 simp only[A3F,A3q] at hS
 clear hS0 q1 q2 q4 q5 hne
 refine Zdsm ?_;clear hS;intro w w hS _ _
 refine F7 stp_list F1 F1 F1 F1 F1 E5 (cloneS C.secs E9 _ w0 _ hS.below hsv) ?_
 rintro e w2 ⟨p4,c4,rfl,k1,k2,hB2,k3⟩
 refine⟨_,rfl,?_⟩
 have hSx:∃Ls,SecP C.secs w0 0 p4 Ls/\(gm,(C.master.map bv++spm).toArray,5)∈Ls/\(gd,(C.seeds.map (Value.int .i64)++spd).toArray,3)∈Ls/\St w0 w2 ((bc,#[.int .i64 C.n,.int .i64 C.q,.int .i64 C.k,.slice p3 C.secs.length d3,.slice (some ⟨gm,0,none⟩) C.master.length cm,.slice (some ⟨gd,0,none⟩) C.seeds.length cd],26)::Ls):=by
  by_cases hl:C.secs=[]
  ·exact⟨_,.inl hl,A3m ..,A3l _ (A3m ..),Y5 own_st (hS.call hB2) (.trans (.cons _ (.swap _ _ _)) (.swap _ _ _))⟩
  ·obtain⟨gS,CS,rfl,j1,j2,j3⟩:=k3 hl
   refine⟨_,.inr ⟨gS,CS,[_,_],rfl,rfl,fun i a m x y hi=>?_⟩,A3l _ (A3m ..),A3l _ (A3l _ (A3m ..)),Y5 own_st (own_st.new hS hB2 j1 j2) (.trans (.cons _ (.trans (.cons _ (.swap _ _ _)) (.swap _ _ _))) (.swap _ _ _))⟩
   obtain⟨xv,yv,h1,h2,h3,h4,h5,h6⟩:=j3 i a m x y hi
   exact⟨xv,yv,h3,h4,h5,h6,fun h=>absurd h E9,fun _=>⟨h1,h2⟩⟩
 clear hS k3 hB2
 obtain⟨Ls,hP,hgm,hgd,hS⟩:=hSx
 refine F2 ?_
 refine Zdsm ?_;clear hS;intro w hS _ _
 go_loopw [32] (fun u32 wr=>∃(k:Nat)(Ls:List Blk),k<=C.secs.length/\u32=.int .i64 (k:Int)/\SecP C.secs w0 k p4 Ls/\(gm,(C.master.map bv++spm).toArray,5)∈Ls/\(gd,(C.seeds.map (Value.int .i64)++spd).toArray,3)∈Ls/\St w0 wr ((bc,#[.int .i64 C.n,.int .i64 C.q,.int .i64 C.k,.slice p4 C.secs.length c4,.slice (some ⟨gm,0,none⟩) C.master.length cm,.slice (some ⟨gd,0,none⟩) C.seeds.length cd],26)::Ls)) (fun u32 _=>C.secs.length - (intOf u32).toNat)
 case atStart=>exact⟨0,Ls,by omega,rfl,hP,hgm,hgd,hS⟩
 case round =>
  clear hS hP hgm hgd
  obtain⟨k,Ls,hk,rfl,hP,hgm,hgd,hS⟩:=hrel
  by_cases hlt:k<C.secs.length
  ·obtain⟨⟨a,m,x,y⟩,hx⟩:∃s,C.secs[k]?=some s:=⟨_,A3p hlt⟩
   rcases hP with hP|⟨gS,CS,Lr,rfl,rfl,hC⟩
   ·rw[hP] at hlt;simp at hlt
   obtain⟨xv,yv,e1,e2,e3,e4,_,hl8⟩:=hC k a m x y hx
   obtain⟨hbx,hby⟩:=hl8 (A3t _)
   obtain⟨px,cx0,rfl,_⟩:=id hbx.slice
   obtain⟨py,cy0,rfl,_⟩:=id hby.slice
   have hsz:k*4+4<=csz CS:=by rw[H5];have:=(A3y.1 e4).1;omega
   have hcu4:=A3c e1 e2 e3 e4
   have hsok:secOk C k=true:=by
    cases h:secOk C k
    ·rw[goodC_bad hlt h] at hg;cases hg
    ·rfl
   unfold secOk at hsok
   rw[hx] at hsok
   simp only[A3A,decide_eq_true_eq] at hsok
   obtain⟨⟨⟨_,s3⟩,s4⟩,_⟩:=hsok
   have hnx:x≠[]:=by intro e;rw[e] at s3;simp at s3
   have hny:y≠[]:=by intro e;rw[e] at s4;simp at s4
   refine Zxsm ?_;clear hS;intro _ _ _ b w w hS
   obtain⟨bR,hbR⟩:∃x,x=b:=⟨_,rfl⟩
   rw[<-hbR] at hS |-
   clear hbR
   refine h_start (fun w=>blk w bc=some (.cells #[.int .i64 C.n,.int .i64 C.q,.int .i64 C.k,.slice (some ⟨gS,0,none⟩) C.secs.length c4,.slice (some ⟨gm,0,none⟩) C.master.length cm,.slice (some ⟨gd,0,none⟩) C.seeds.length cd] 26 (0,0))/\blk w bR=some (.cells #[.int .i64 a,.int .i64 m,.slice px x.length cx0,.slice py y.length cy0] 71 (0,0))) [0,1,2,3,4,5,6,7,8,9,10,11,12,13,14,15,16,17] E7 E7 ?_
   intro w hcq
   replace hS:=hS.cls hcq
   clear hcq
   have hI:=And.intro (own_st.blk 1 hS rfl) (own_st.blk 0 hS rfl)
   refine J8 0 hI ?_;refine H9 ?_
   refine A0t 1 hI (fun _ h=>h.1) ?_;refine H9 ?_
   refine J8 2 hI ?_;refine H9 ?_
   refine J8 3 hI ?_;refine H9 ?_
   refine A0t 4 hI (fun _ h=>h.1) ?_;refine H9 ?_
   refine J8 5 hI ?_;refine H9 ?_
   refine J8 6 hI ?_;refine H9 ?_
   refine A0t 7 hI (fun _ h=>h.2) ?_;refine H9 ?_
   refine J8 9 hI ?_;refine H9 ?_
   refine A0t 10 hI (fun _ h=>h.2) ?_;refine H9 ?_
   refine R7 8 E7 F1 ?_
   refine F7 stp_list F1 F1 F1 F1 F1 E5 (cloneK _ x hnx E9 _ (hbx.below hS.below)) ?_
   rintro e w3 ⟨gx,cx,csx,rfl,q1,q2,⟨q3,spx,rfl⟩,q4⟩
   refine⟨_,rfl,?_⟩
   replace hS:=own_st.new hS q4 q1 q2
   clear q1 q2 q4 hI
   refine F2 ?_
   refine Zdsm ?_;show _
   have hI:=And.intro (own_st.blk 2 hS rfl) (own_st.blk 1 hS rfl)
   refine⟨hI,?_⟩
   refine R7 11 E7 F1 ?_
   refine F7 stp_list F1 F1 F1 F1 F1 E5 (cloneK _ y hny E9 _ (hby.below hS.below)) ?_
   rintro e w3 ⟨gy,cy,csy,rfl,q1,q2,⟨q5,spy,rfl⟩,q4⟩
   refine⟨_,rfl,?_⟩
   replace hS:=own_st.new hS q4 q1 q2
   clear q1 q2 q4 hI
   refine F2 ?_
   refine Zdsm ?_;show _
   have hI:=And.intro (own_st.blk 3 hS rfl) (own_st.blk 2 hS rfl)
   refine⟨hI,?_⟩
   refine J8 12 hI ?_;refine H9 ?_
   refine J8 13 hI ?_;refine H9 ?_
   refine R7 14 E7 F1 ?_
   refine Zdsm ?_;clear hS;intro w hS
   clear hI
   have hI:=And.intro (own_st.blk 3 hS rfl) (own_st.blk 2 hS rfl)
   refine⟨hI,?_⟩
   refine J8 15 hI ?_;refine H9 ?_
   refine J8 16 hI ?_;refine H9 ?_
   refine R7 17 E7 F1 ?_
   refine Zdsm ?_;clear hS;intro w hS
   refine⟨And.intro (own_st.blk 3 hS rfl) (own_st.blk 2 hS rfl),?_⟩
   refine h_done E7 ?_
   refine Zdsm ?_;show _
   clear hI
   go_roundw
   case rel =>
    have hsub:∀z∈Lr,z∈((gy,(y.map bv++spy).toArray,5)::(gx,(x.map bv++spx).toArray,5)::Lr):=fun z hz=>A3l _ (A3l _ hz)
    have haw:∀{z:Blk},z∈((gS,CS,71)::Lr)->z.2.2≠71->z∈Lr:=fun hz hn=>by
     rcases A3G.1 hz with rfl|hz
     ·exact absurd rfl hn
     ·exact hz
    refine⟨k+1,(gS,_,71)::(gy,(y.map bv++spy).toArray,5)::(gx,(x.map bv++spx).toArray,5)::Lr,by omega,by push_cast;rfl,.inr ⟨gS,_,_,rfl,rfl,hC.next hsub hx ⟨gx,cx,spx,rfl,q3,A3l _ (A3m ..)⟩ ⟨gy,cy,spy,rfl,q5,A3m ..⟩⟩,A3l _ (hsub _ (haw hgm (by show 5≠71;decide))),A3l _ (hsub _ (haw hgd (by show 3≠71;decide))),own_st.sub hS (fun z hz=>?_) ?_⟩
    ·simp only[A3G] at hz |-
     rcases hz with h|h|h|h|h<;>simp only[h,true_or,or_true]
    ·have:=own_st.nodup hS
     simp only[A3X,A4a,A3G,not_or] at this |-
     grind
   case measure=>(simp[intOf];omega)
  ·obtain rfl:k=C.secs.length:=by omega
   rename World=>w1
   have hCf:CfgAt w1 (.agg #[.int .i64 C.n,.int .i64 C.q,.int .i64 C.k,.slice p4 C.secs.length c4,.slice (some ⟨gm,0,none⟩) C.master.length cm,.slice (some ⟨gd,0,none⟩) C.seeds.length cd]) C:=⟨_,_,_,rfl,hP.at (A3t _) k1 k2 hlim (own_st.drop hS),F8 (pre:=[]) (off:=0) (hS.2.1 _ (A3l _ hgm)).2 rfl rfl rfl q3,OwAt.blk rfl q6 (by rw[A0E];exact(hS.2.1 _ (A3l _ hgd)).2),r⟩
   have hbc:=hS.blk 0 rfl
   have hBW:=hS.below
   rw[hn] at hbc hCf
   clear hS hP hgm hgd hsv hmv hdv hvb hlim k1 k2 q3 q6
   have hS:=St.start w1
   have hvs:=fun w=>vsize_any w
   refine Zdsm ?_;intro _ _ _ _ _
   refine MV.region_w_lit 6 [6,7,8,9,10,11] E7 E7 E7 ?_
   dsimp only[List.take,List.drop]
   iterate 6 (first|(refine MV.wpV_want (fun _=>rfl) (fun K hK=>?_);apply Exists.intro;refine⟨fun pB w' hw' hF=>?_,hK _ _ ?_⟩;(focus (have hZ:=(own_st).call hS hw';exact(G8 (hvs _))));clear hK K;refine Zo ?_)|refine ZV ?_|(refine MV.wpV_want (fun _=>rfl) (fun K hK=>?_);apply Exists.intro;refine⟨fun pB w' hw' hF=>?_,hK _ _ ?_⟩;(focus (have hZ:=(own_st).call hS hw';exact T6 (by exact((hZ).far hbc).1)));clear hK K;refine Zo ?_))
   refine MV.wpV_nil ?_
   intro bb w hcq hfq
   replace hS:=(own_st).call hS hcq
   try dsimp only
   rw[show (n:Int)*117=((117*n:Nat):Int) by omega]
   clear hcq hfq
   refine F9 6 E7 F1 ?_
   refine F7 stp_list F1 F1 F1 F1 F1 E5 (new_any (rd:=rd) (117*n) n ⟨by omega,by omega⟩ ⟨by omega,by omega⟩ hS) ?_
   rintro e w2 ⟨g,rfl,hS2⟩
   refine⟨_,rfl,?_⟩
   clear hS
   have hS:=hS2
   clear hS2
   have fbc:∀{su:List UInt8}{co:List Int} w X,Dk rd w1 g Fon (117*n) su [] co w X->blk w bc=some (.cells #[.int .i64 (n:Int),.int .i64 C.q,.int .i64 C.k,.slice p4 C.secs.length c4,.slice (some ⟨gm,0,none⟩) C.master.length cm,.slice (some ⟨gd,0,none⟩) C.seeds.length cd] 26 (0,0)):=fun w X h=>((Dk.below h).block bc (G1 hbc)).trans hbc
   refine F2 ?_
   refine ZdKm ?_;show _
   (refine Zpl 7 ?_);refine G9 ?_
   (refine Zpl 8 ?_);refine G9 ?_
   (refine Zpl 9 ?_);refine G9 ?_
   (refine Zpl 10 ?_);refine G9 ?_
   (refine Zpl 11 ?_);refine G9 ?_
   refine K6 E7 ?_
   refine ZyKm ?_;intro _ _
   have hS0:=hS
   rename World=>wq
   refine MV.region_val_lit 7 E7 E7 ?_
   dsimp only[List.take,List.drop]
   iterate 7 (first|(refine MV.wpV_want (fun _=>rfl) (fun K hK=>?_);apply Exists.intro;refine⟨fun pB w' hw' hF=>?_,hK _ _ ?_⟩;(focus (have hZ:=(own_dk).call hS hw';exact(I9 (L8 F1 F1 (disk_built g.P)))));clear hK K;refine Zo ?_)|refine ZV ?_|(refine MV.wpV_want (fun _=>rfl) (fun K hK=>?_);apply Exists.intro;refine⟨fun pB w' hw' hF=>?_,hK _ _ ?_⟩;(focus (have hZ:=(own_dk).call hS hw';first|exact T6 (by exact fbc _ _ hZ)|exact A0h (by exact fbc _ _ hZ)));clear hK K;refine Zo ?_)|(refine MV.wpV_same (PhB wq.heap.size 1 3 OneK) (O7) (fun _=>rfl) (fun bb w' hw' hF=>?_) ?_;(focus (have hZ:=(own_dk).call hS hw';exact A2p hw' F1 F1 E5 F1 (by intro v hv;rcases A4p.1 hv with rfl;rfl) F1 E8 E8));refine Zo ?_)|(refine MV.wpV_same (PhB wq.heap.size n 3 (FourK n)) (O7) (fun _=>rfl) (fun bb w' hw' hF=>?_) ?_;(focus (have hZ:=(own_dk).call hS hw';exact MV.yields_call (T5 (repeat_any n hn3 _ _ (one_of (MV.FactsAt.at (Φ:=PhB wq.heap.size 1 3 OneK) 3 hF))) hw')));refine Zo ?_))
   refine MV.wpV_nil ?_
   intro bb w hcq hfq
   replace hS:=(own_dk).call hS hcq
   try dsimp only
   have fT:=hfq (6,PhB wq.heap.size n 3 (FourK n)) F0
   dsimp only at fT
   obtain⟨X1,hX1⟩:∃x,bb (0+1+1+1+1+1+1)=x:=⟨_,rfl⟩
   rw[hX1]
   rw[show bb 6=X1 from hX1] at fT
   clear hfq hX1 hcq
   obtain⟨DR,cD,csD,rfl,q1,q2,hcD,hcsD⟩:=fT
   rw[hcD]
   rw[hcsD] at q2
   replace hS:=Own.take own_dk hS hS0 q1 q2
   clear hS0 q1 q2
   repeat' (first|refine ZaKm ?_|(refine Zll ?_;((refine G3 stp_list (by exact fbc _ _ hS) ?_)<;>refine F2 ?_))|(refine ZkK ?_;clear hS;intro b w hS)|(refine Zll ?_;(refine Stp.go stp_list F1 F1 (L8 F1 F1 (tg_built g.P _ _ _ _ _ _ _ ⟨_,_,_,rfl⟩ ⟨_,_,_,rfl⟩ ⟨_,_,_,rfl⟩ ⟨_,_,_,rfl⟩)) ?_;refine F2 ?_))|(refine Zg ?_;go_step)|fail)
   obtain⟨T,hT⟩:∃x,x=b:=⟨_,rfl⟩
   rw[<-hT] at hS |-
   clear hT
   obtain⟨tc,htc⟩:∃x:Array Value,#[.pointer (some ⟨g.P,0,none⟩),.int .i64 (n:Int),.int .i64 C.q,.int .i64 C.k,.slice p4 C.secs.length c4,.slice (some ⟨gm,0,none⟩) C.master.length cm,.slice (some ⟨gd,0,none⟩) C.seeds.length cd,.slice none 0 0,.slice (some ⟨DR,0,none⟩) n n,.int .i64 0]=x:=⟨_,rfl⟩
   rw[htc] at hS
   go_loopw [78] (fun u78 wr=>∃(k:Nat)(su:List UInt8)(co:List Int)(Lx:List Blk),k<=n/\u78=.int .i64 (k:Int)/\(T,tc,80)∈Lx/\(DR,(fours n).toArray,3)∈Lx/\co.length=n/\(∀t,t<k->co.getD t 0=1)/\(∀t,k<=t->t<n->co.getD t 0=0)/\(∀t,t<k->Made su (117*n) t (tkeyL C.master t) (frF C t))/\Dk rd w1 g Fon (117*n) su [] co wr Lx) (fun u78 _=>n - (intOf u78).toNat)
   case atStart=>exact⟨0,_,_,_,by omega,rfl,A3m ..,by simp,List.length_replicate,fun t h=>absurd h E9,fun t _ h=>by rw[A3I,A5O,if_pos h];rfl,fun t h=>absurd h E9,hS⟩
   case round =>
    clear hS
    obtain⟨k,su,co,Lx,hk,rfl,hTm,hDm,hcl,hc1,hc0,hMk,hS⟩:=hrel
    by_cases hlt:k<n
    ·repeat' (first|refine ZaKm ?_|(refine Zll ?_;((refine K3 stp_list (by exact fbc _ _ hS) ?_)<;>refine F2 ?_))|(refine Zg ?_;go_step)|fail)
     refine F7 stp_list F1 F1 F1 F1 F1 E5 (tformat_ok hrd hS C hg _ hCf k E9 E9 E9 (hc0 k (A3t _) hlt)) ?_
     have hsu:=hS.ok.2.1
     clear hS
     rintro e w3 ⟨L2,rfl,hL2,hS⟩
     refine⟨_,rfl,?_⟩
     refine F2 ?_
     refine ZdKm ?_;show _
     go_roundw
     case rel =>
      refine⟨k+1,_,_,L2,by omega,by push_cast;rfl,hL2 _ hTm,hL2 _ hDm,by rw[A4w];exact hcl,fun t ht=>?_,fun t h1 h2=>?_,made_next (key:=fun t=>tkeyL C.master t) (fr:=frF C) hsu E9 (A0R _ _) hMk,hS⟩
      ·by_cases htk:t=k
       ·subst htk
        rw[A3I,List.getElem?_set_self E9];rfl
       ·rw[A3I,List.getElem?_set_ne E9,<-A3I]
        exact hc1 t E9
      ·rw[A3I,List.getElem?_set_ne E9,<-A3I]
       exact hc0 t E9 h2
     case measure=>(simp[intOf];omega)
    ·obtain rfl:k=n:=by omega
     obtain⟨L3,hS3,hL3⟩:=own_two own_dk hS hTm hDm (fun e=>by have:=key_uniq (own_dk.nodup hS) hTm hDm e;simp at this)
     refine ZdKm ?_;intro _ _ _ _ _
     refine F7 stp_list F1 F1 F1 F1 F1 E5 (tstart_ok hrd hrp C hg (.slice p4 C.secs.length c4) (.slice (some ⟨gm,0,none⟩) C.master.length cm) (.slice (some ⟨gd,0,none⟩) C.seeds.length cd) (by rw[hn];exact hCf) hn T DR 0 (L:=(DR,(fours k).toArray,3)::L3) (by unfold tgC;rw[hn,htc];exact hS3) (A3m ..) rfl hcl hc1 hMk) ?_
     clear hS hS3
     rintro e w3 ⟨TA,CS,X,Q,B,su2,co2,Ly,nn,D,rfl,hCS,hS,hten,hmp,hse⟩
     refine⟨_,rfl,?_⟩
     refine F2 ?_
     have hS2:=own_mp (rd:=rdp) (B:=B (k - 1)) (n:=nn) (D:=D) (own_dk (rd:=rd) (w0:=w1) (g:=g) (F:=Fon) (N:=117*k) (su:=su2) (l:=[]) (co:=co2)) |>.call ⟨hS,hmp⟩ (Below.refl _ _)
     refine ZdKm ?_;show _
     go_ret2
     exact⟨w1,T,rfl,hBW,g,TA,CS,X,Q,B,su2,co2,Ly,nn,D,_,_,_,_,hCS,hS,hten,hmp,hse⟩
end
section
open Go.ChangeShapes Go.WideShapes Go.ChangeAt Go.RowKit
attribute [local irreducible] wpList wpListIn Oper.quietAt wpM
open PK (okI)
theorem at_nil(i:Int)(w0:World):Calls Tryz.prog 30 #[.pointer none,.int .i64 i] w0 fun e w'=>e=.returned (.pointer none)/\Below w0.heap.size w0 w':=by
 have hS:=St.start w0
 go_enter Tryz.func30,Tryz.ntmps30
 repeat' (first|refine Zasm ?_|(refine Zll ?_;(refine Stp.go stp_list F1 F1 (r_eqPN F1 F1 Tryz.underlying30) ?_;refine F2 ?_))|(refine Zg ?_;go_step)|fail)
 go_ret
 exact⟨rfl,hS.below⟩
theorem tick_nil(w0:World):Calls Tryz.prog 9 #[.pointer none] w0 fun e w'=>e=.returned (.int .i64 0)/\Below w0.heap.size w0 w':=by
 have hS:=St.start w0
 go_enter Tryz.func9,Tryz.ntmps9
 repeat' (first|refine Zasm ?_|(refine Zll ?_;(refine Stp.go stp_list F1 F1 (r_eqPN F1 F1 Tryz.underlying30) ?_;refine F2 ?_))|(refine Zg ?_;go_step)|fail)
 go_ret
 exact⟨rfl,hS.below⟩
theorem steps_nil(w0:World):Calls Tryz.prog 14 #[.pointer none] w0 fun e w'=>e=.returned (.int .i64 0)/\Below w0.heap.size w0 w':=by
 have hS:=St.start w0
 go_enter Tryz.func14,Tryz.ntmps14
 repeat' (first|refine Zasm ?_|(refine Zll ?_;(refine Stp.go stp_list F1 F1 (r_eqPN F1 F1 Tryz.underlying30) ?_;refine F2 ?_))|(refine Zg ?_;go_step)|fail)
 go_ret
 exact⟨rfl,hS.below⟩
theorem image_nil(w0:World):Calls Tryz.prog 13 #[.pointer none] w0 fun e w'=>e=.returned (.slice none 0 0)/\Below w0.heap.size w0 w':=by
 have hS:=St.start w0
 go_enter Tryz.func13,Tryz.ntmps13
 repeat' (first|refine Zasm ?_|(refine Zll ?_;(refine Stp.go stp_list F1 F1 (r_eqPN F1 F1 Tryz.underlying30) ?_;refine F2 ?_))|(refine Zg ?_;go_step)|fail)
 go_ret
 exact⟨rfl,hS.below⟩
theorem xwait_nil(w0:World):Calls Tryz.prog 39 #[.pointer none] w0 fun e w'=>e=.returned (.int .i64 0)/\Below w0.heap.size w0 w':=by
 have hS:=St.start w0
 go_enter Tryz.func39,Tryz.ntmps39
 repeat' (first|refine Zasm ?_|(refine Zll ?_;(refine Stp.go stp_list F1 F1 (r_eqPN F1 F1 Tryz.underlying83) ?_;refine F2 ?_))|(refine Zg ?_;go_step)|fail)
 go_ret
 exact⟨rfl,hS.below⟩
theorem xbroken_nil(w0:World):Calls Tryz.prog 31 #[.pointer none] w0 fun e w'=>e=.returned (.bool false)/\Below w0.heap.size w0 w':=by
 have hS:=St.start w0
 go_enter Tryz.func31,Tryz.ntmps31
 repeat' (first|refine Zasm ?_|(refine Zll ?_;(refine Stp.go stp_list F1 F1 (r_nePN F1 F1 Tryz.underlying83) ?_;refine F2 ?_))|(refine Zg ?_;go_step)|fail)
 go_ret
 exact⟨rfl,hS.below⟩
theorem waiting_nil(i:Int)(w0:World):Calls Tryz.prog 10 #[.pointer none,.int .i64 i] w0 fun e w'=>e=.returned (.int .i64 0)/\Below w0.heap.size w0 w':=by
 have hS:=St.start w0
 go_enter Tryz.func10,Tryz.ntmps10
 repeat' (first|refine Zasm ?_|(refine Zll ?_;first|(refine g_calls hS (at_nil i _) ?_;clear hS;intro w hS)|(refine g_calls hS (xwait_nil _) ?_;clear hS;intro w hS))|(refine Zg ?_;go_step)|fail)
 go_ret
 exact⟨rfl,hS.below⟩
theorem broken_nil(i:Int)(w0:World):Calls Tryz.prog 11 #[.pointer none,.int .i64 i] w0 fun e w'=>e=.returned (.bool false)/\Below w0.heap.size w0 w':=by
 have hS:=St.start w0
 go_enter Tryz.func11,Tryz.ntmps11
 repeat' (first|refine Zasm ?_|(refine Zll ?_;first|(refine g_calls hS (at_nil i _) ?_;clear hS;intro w hS)|(refine g_calls hS (xbroken_nil _) ?_;clear hS;intro w hS))|(refine Zg ?_;go_step)|fail)
 go_ret
 exact⟨rfl,hS.below⟩
theorem xresv_nil(u:Int)(w0:World):Calls Tryz.prog 44 #[.pointer none,.int .i64 u] w0 fun e w'=>e=.returned nobV/\Below w0.heap.size w0 w':=by
 unfold nobV
 have hS:=St.start w0
 go_enter Tryz.func44,Tryz.ntmps44
 repeat' (first|refine Zasm ?_|(refine Zks ?_;clear hS;intro b w hS)|(refine Ztsm ?_;clear hS;intro w hS)|(refine Zll ?_;(refine Stp.go stp_list F1 F1 (r_eqPN F1 F1 Tryz.underlying83) ?_;refine F2 ?_))|(refine Zg ?_;go_step)|fail)
 exact G2 (n:=5) Tryz.results44 E7 (.inl rfl) _ _ _ _ rfl rfl (hS.blk 0 rfl) F1 ⟨rfl,hS.below⟩
theorem resv_nil(i u:Int)(w0:World):Calls Tryz.prog 16 #[.pointer none,.int .i64 i,.int .i64 u] w0 fun e w'=>e=.returned nobV/\Below w0.heap.size w0 w':=by
 have hx:=fun w=>xresv_nil u w
 unfold nobV at hx |-
 have hS:=St.start w0
 go_enter Tryz.func16,Tryz.ntmps16
 repeat' (first|refine Zasm ?_|(refine Zks ?_;clear hS;intro b w hS)|(refine Ztsm ?_;clear hS;intro w hS)|(refine Zll ?_;first|(refine g_calls hS (at_nil i _) ?_;clear hS;intro w hS)|(refine g_calls hS (hx _) ?_;clear hS;intro w hS))|(refine Zg ?_;go_step)|fail)
 exact G2 (n:=5) Tryz.results16 E7 (.inl rfl) _ _ _ _ rfl rfl (hS.blk 0 rfl) F1 ⟨rfl,hS.below⟩
theorem block_nil(i u m:Int)(w0:World):Calls Tryz.prog 6 #[.pointer none,.int .i64 i,.int .i64 u,.int .i64 m] w0 fun e w'=>e=.returned (badR 5)/\Below w0.heap.size w0 w':=by
 have hS:=St.start w0
 have sZ:csz (bvs (zs 128))=128:=by rw[F3,zs_len]
 go_enter Tryz.func6,Tryz.ntmps6
 repeat' (first|refine Zasm ?_|(refine Zks ?_;clear hS;intro b w hS)|(refine Ztsm ?_;clear hS;intro w hS)|(refine Zll ?_;first|(refine g_calls hS (at_nil i _) ?_;clear hS;intro w hS)|(refine Stp.go stp_list F1 F1 (r_eqPN F1 F1 Tryz.underlying30) ?_;refine F2 ?_))|(refine Zg ?_;go_step)|fail)
 exact M9 (n:=128) Tryz.results6 E7 (.inl rfl) _ _ _ _ rfl rfl (hS.blk 0 rfl) D4 (⟨rfl,hS.below⟩)
theorem do_nil(k t i n:Int)(bw kw:Value)(hb:∃p m c,bw=.slice p m c)(hk:∃p m c,kw=.slice p m c)(w0:World):Calls Tryz.prog 8 #[.pointer none,.agg #[.int .i64 k,.int .i64 t,.int .i64 i,bw,.int .i64 n,kw]] w0 fun e w'=>e=.returned (.slice none 0 0)/\Below w0.heap.size w0 w':=by
 obtain⟨p,m,c,rfl⟩:=hb
 obtain⟨p2,m2,c2,rfl⟩:=hk
 have hS:=St.start w0
 go_enter Tryz.func8,Tryz.ntmps8
 repeat' (first|refine Zasm ?_|(refine Zks ?_;clear hS;intro b w hS)|(refine Zll ?_;(refine Stp.go stp_list F1 F1 (r_eqPN F1 F1 Tryz.underlying30) ?_;refine F2 ?_))|(refine Zg ?_;go_step)|fail)
 go_ret
 exact⟨rfl,hS.below⟩
section
variable{T TA X n:Nat}{C:Cf}{P:Nat}{sv mv dv rv:Value}{tick:Int}{CS:Array Value}{ty ty2:TypeId}{fr fr2:Nat × Nat}{w0:World}
theorem at_in(hn:n<=100)(hT:blk w0 T=some (.cells (tgC P C sv mv dv (.slice (some ⟨TA,0,none⟩) n n) rv tick) ty fr))(hTA:blk w0 TA=some (.cells CS ty2 fr2)){t:Nat}(ht:t<n)(hX:CS[t]?=some (.pointer (some ⟨X,0,none⟩))):Calls Tryz.prog 30 #[.pointer (some ⟨T,0,none⟩),.int .i64 (t:Int)] w0 fun e w'=>e=.returned (.pointer (some ⟨X,0,none⟩))/\Below w0.heap.size w0 w':=by
 unfold tgC at hT
 have hS:=St.start w0
 go_enter Tryz.func30,Tryz.ntmps30
 repeat' (first|refine Zbsm ?_|(refine Zll ?_;((first|refine G3 stp_list (by exact((hS).far hT).1) ?_ (hv:=by rfl)|refine G3 stp_list (by exact((hS).far hTA).1) ?_ (hv:=by(rw[A3r];exact hX)))<;>refine F2 ?_))|(refine Zll ?_;(refine Stp.go stp_list F1 F1 (r_eqPN F1 F1 Tryz.underlying30) ?_;refine F2 ?_))|(refine Zg ?_;go_step)|fail)
 go_ret
 exact⟨rfl,hS.below⟩
theorem at_out(hn:n<=100)(hT:blk w0 T=some (.cells (tgC P C sv mv dv (.slice (some ⟨TA,0,none⟩) n n) rv tick) ty fr)){i:Int}(hi:i<0\/(n:Int)<=i):Calls Tryz.prog 30 #[.pointer (some ⟨T,0,none⟩),.int .i64 i] w0 fun e w'=>e=.returned (.pointer none)/\Below w0.heap.size w0 w':=by
 unfold tgC at hT
 have hS:=St.start w0
 by_cases h0:i<0
 ·go_enter Tryz.func30,Tryz.ntmps30
  repeat' (first|refine Zasm ?_|(refine Zll ?_;(refine Stp.go stp_list F1 F1 (r_eqPN F1 F1 Tryz.underlying30) ?_;refine F2 ?_))|(refine Zg ?_;go_step)|fail)
  go_ret
  exact⟨rfl,hS.below⟩
 ·have h1:(n:Int)<=i:=by omega
  go_enter Tryz.func30,Tryz.ntmps30
  repeat' (first|refine Zasm ?_|refine Zvs ?_|(refine Zll ?_;(refine Stp.go stp_list F1 F1 (r_eqPN F1 F1 Tryz.underlying30) ?_;refine F2 ?_))|(refine Zg ?_;go_step)|fail)
  go_ret
  exact⟨rfl,hS.below⟩
theorem tick_any(hT:blk w0 T=some (.cells (tgC P C sv mv dv (.slice (some ⟨TA,0,none⟩) n n) rv tick) ty fr)):Calls Tryz.prog 9 #[.pointer (some ⟨T,0,none⟩)] w0 fun e w'=>e=.returned (.int .i64 tick)/\Below w0.heap.size w0 w':=by
 unfold tgC at hT
 have hS:=St.start w0
 go_enter Tryz.func9,Tryz.ntmps9
 repeat' (first|refine Zasm ?_|refine Zvs ?_|(refine Zll ?_;(refine Stp.go stp_list F1 F1 (r_eqPN F1 F1 Tryz.underlying30) ?_;refine F2 ?_))|(refine Zg ?_;go_step)|fail)
 go_ret
 exact⟨rfl,hS.below⟩
end
end
section
open Go.ChangeShapes Go.WideShapes Go.ChangeAt Go.RowKit
attribute [local irreducible] wpList wpListIn Oper.quietAt wpM
theorem run_iter(k t i n:Int)(bw kw:Value)(hb:∃p m c,bw=.slice p m c)(hk:∃p m c,kw=.slice p m c)(eb bx tb:Nat)(W0:World)(hE:blk W0 eb=some (.cells #[.int .i64 k,.int .i64 t,.int .i64 i,bw,.int .i64 n,kw,.int .i64 k,.int .i64 t,.int .i64 i,bw,.int .i64 n,kw] 28 (0,0)))(hX:blk W0 bx=some (.cells #[.slice (some ⟨eb,0,none⟩) 2 2] 95 (0,0)))(hT:blk W0 tb=some (.cells #[.pointer none] 30 (0,0))) :
  IterAt Tryz.prog 33 #[.pointer (some ⟨bx,0,none⟩),.pointer (some ⟨tb,0,none⟩)] (fun _=>#[undef,undef]) (some 0) [eb,bx,tb] W0:=by
 intro lb J Jx M W L0 hbW hR hM hJ0 hH' hY
 have hEW:=(hbW.block eb (G1 hE)).trans hE
 have hXW:=(hbW.block bx (G1 hX)).trans hX
 have hTW:=(hbW.block tb (G1 hT)).trans hT
 have hdo:=fun w=>do_nil k t i n bw kw hb hk w
 obtain⟨p1,m1,c1,rfl⟩:=hb
 obtain⟨p2,m2,c2,rfl⟩:=hk
 refine(callsIn_wide (n:=1)).1 ?_
 refine callsIn_of_wp Tryz.func33 rfl trivial ?_ rfl
 simp only[Tryz.ntmps33,A3R,A3D,A3S,Nat.reduceAdd,Nat.reduceSub,A4h,A4i,A4t,A4l,A3q,A3F]
 have hS:=St.start W
 repeat' (first|refine ZaVm ?_|(refine Zli ?_;((refine G3 F5 (by exact((hS).far hXW).1) ?_)<;>refine F2 ?_))|(refine Zi ?_;first|gi_step|refine Zq ?_)|fail)
 have hn1:eb∉L0.map (·.1):=hR eb F0
 have hn2:tb∉L0.map (·.1):=hR tb F0
 gi_loopg [10] 2 (fun r u10 wr=>∃q:Nat,r+q=2/\u10=.int .i64 (q:Int)/\Rd L0 W L0 wr)
 case atStart=>exact⟨0,by omega,rfl,.call hH' hS.below⟩
 case round =>
  obtain⟨q,hq,rfl,hRd⟩:=hrel
  have hEr:=(hRd.farCells hEW hn1).1
  have hTr:=(hRd.farCells hTW hn2).1
  replace hS:=St.start wr
  by_cases hlt:q<2
  ·have hcut:cut #[.int .i64 k,.int .i64 t,.int .i64 i,.slice p1 m1 c1,.int .i64 n,.slice p2 m2 c2,.int .i64 k,.int .i64 t,.int .i64 i,.slice p1 m1 c1,.int .i64 n,.slice p2 m2 c2] (q*6) 6=#[.int .i64 k,.int .i64 t,.int .i64 i,.slice p1 m1 c1,.int .i64 n,.slice p2 m2 c2]:=by
    have:q=0\/q=1:=by omega
    rcases this with rfl|rfl<;>rfl
   have hsz:csz #[.int .i64 k,.int .i64 t,.int .i64 i,.slice p1 m1 c1,.int .i64 n,.slice p2 m2 c2,.int .i64 k,.int .i64 t,.int .i64 i,.slice p1 m1 c1,.int .i64 n,.slice p2 m2 c2]=12:=rfl
   repeat' (first|refine ZbVm ?_|(refine Zli ?_;((first|refine G3 F5 (by exact((hS).far hTr).1) ?_ (hv:=by rfl)|refine K3 F5 (by exact((hS).far hEr).1) ?_ (hv:=by(exact hcut)))<;>refine F2 ?_))|(refine ZkV ?_;clear hS;intro b w hS)|(refine ZtVm ?_;clear hS;intro w hS)|(refine Zli ?_;(refine g_callp F5 own_st hS (hdo _) ?_;clear hS;intro w hS))|(refine Zi ?_;gi_step)|fail)
   have hRd1:Rd L0 W L0 w:=hRd.trans (.call hRd.holds hS.below)
   clear hS
   obtain⟨gq,hgq⟩:∃x,x=gk:=⟨_,rfl⟩
   gi_loopg [19] 0 (fun _ u19 wr=>u19=.int .i64 0/\Rd L0 W L0 wr)
   case atStart=>exact⟨rfl,hRd1⟩
   case round =>
    obtain⟨rfl,hRd⟩:=hrel
    have hS:=St.start wr
    refine ZdVm ?_;intro _ _
    subst hgq
    gi_roundg (gq - 1)
    case rel=>exact⟨q+1,by omega,by push_cast;rfl,hRd.trans (.call hRd.holds hS.below)⟩
    case measure=>omega
  ·obtain rfl:q=2:=by omega
   refine ZdVm ?_;intro _ _
   refine bodyPost_end (results_none rfl _ _ _) rfl ?_
   exact⟨⟨_,rfl⟩,L0,hRd.trans (.call hRd.holds hS.below),.inl ⟨0,rfl,hJ0⟩⟩
theorem tnobody(w0:World):Calls Tryz.prog 17 #[] w0 fun e w'=>e=.returned (.agg #[.slice none 0 0,.int .i64 (-1),.int .i64 0,.bool false,.int .i64 0])/\Below w0.heap.size w0 w':=by
 have hS:=St.start w0
 go_enter Tryz.func17,Tryz.ntmps17
 refine Zdsm ?_;clear hS;intro b w w hS
 exact G2 (n:=5) Tryz.results17 E7 (.inl rfl) _ _ _ _ rfl rfl (hS.blk 0 rfl) F1 (⟨rfl,hS.below⟩)
theorem tneB{P:Program}{o:Oper}{a:Act}{w:World}{t t':TypeId}{x y:Operand}{m n q:Bool}(hop:o.op=.binOp .neq t x y t')(hx:evO a x=some (.bool m))(hy:evO a y=some (.bool n))(ht:P.underlying t=some .bool)(hq:(!(m == n))=q):(execOp a.eval o).run P w=.ok (.value (.bool q)) w:=by
 unfold execOp;rw[hop];subst hq
 simp[F4 hx,F4 hy,eqGuard,binOp,run_equal_bool w t m n ht]
theorem tsame_nob(w0:World):Calls Tryz.prog 15 #[.agg #[.slice none 0 0,.int .i64 (-1),.int .i64 0,.bool false,.int .i64 0],.agg #[.slice none 0 0,.int .i64 (-1),.int .i64 0,.bool false,.int .i64 0]] w0 fun e w'=>e=.returned (.bool true)/\Below w0.heap.size w0 w':=by
 have hS:=St.start w0
 go_enter Tryz.func15,Tryz.ntmps15
 repeat' (first|refine Zasm ?_|(refine Zks ?_;clear hS;intro b w hS)|(refine Zll ?_;(refine Stp.go stp_list F1 F1 (tneB F1 F1 F1 F1 F1) ?_;refine F2 ?_))|(refine Zg ?_;go_step)|fail)
 refine wp_loop_rounds 1 ?_
 rw[rounds_succ]
 refine Zdsm ?_;intro _ _
 go_ret
 exact⟨rfl,hS.below⟩
theorem tis_e(n:Int)(hn:(n == 0)=false)(w0:World):Calls Tryz.prog 12 #[.iface 48 (.int .i64 n),.int .i64 n] w0 fun e w'=>e=.returned (.bool true)/\Below w0.heap.size w0 w' :=
 (is_err n n hn w0).mono fun e w' ⟨h1,h2⟩=>⟨by rw[h1,beq_self_eq_true],h2 ▸ Below.refl _ _⟩
end
end Go.Proofs.YtlfbfbbdpcihfaaGreat
