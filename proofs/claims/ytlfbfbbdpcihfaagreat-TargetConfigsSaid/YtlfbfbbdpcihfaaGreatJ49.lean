/- Laws that the claim uses. No condition of their own. -/
import Derived.Test.YtlfbfbbdpcihfaaGreatJ48
set_option maxRecDepth 100000
set_option maxHeartbeats 8000000
set_option linter.all false
namespace Go.Proofs.YtlfbfbbdpcihfaaGreat
section
open Go.ChangeShapes Go.WideShapes Go.ChangeAt Go.RowKit
attribute [local irreducible] wpList wpListIn Oper.quietAt wpM
open Go.Maps
attribute [local irreducible] shaL tagL
theorem do_frame{rdp:Rdr}(hrp:RdPtr rdp){Bd:Nat}{H:World->List Blk->Prop}(hH:Own Bd H){C:Cf}{P n T TA:Nat}{tick:Int}{sv mv tv rv qs qf:Value}{CS:Array Value}{B nn:Nat}{D:DataW Unit}{X Q G gy ny cy ca V t:Nat}{sd dr:Int}{xv:Value}{y r:List UInt8}{sp:List Value}{L:List Blk}{w0:World}{tyQ ty1:TypeId}(hn:n<=100)(ht:t<n)(hX:CS[t]?=some (.pointer (some ⟨X,0,none⟩)))(hr:r.length=16)(hy1:1<=y.length/\y.length<=64)(hny:ny=y.length)(hcy:y.length<=cy)(hdr:0<=dr/\dr<=1000)
  (hD:∀z,D.atKey (.int .i64 1) z=.lit (.int .i64 (G:Int)))(hQm:(Q,#[qs,qf,.int .i64 0],tyQ)∈L)(hym:(gy,(y.map bv++sp).toArray,5)∈L){dv:Value}(hv:BytesM L dv ([1,0,0,0,1,0,0,16]++r))
  (hS:Mp H rdp B nn D w0 ((T,tgC P C sv mv tv (.slice (some ⟨TA,0,none⟩) n n) rv tick,80)::(TA,CS,ty1)::(X,xC ca V (t:Int) sd dr B Q (nob5++nob5),94)::(G,sessC (t:Int) 1 xv (.slice (some ⟨gy,0,none⟩) ny cy),211)::L)):Calls Tryz.prog 8 #[.pointer (some ⟨T,0,none⟩),.agg #[.int .i64 1,.int .i64 (t:Int),.int .i64 1,dv,.int .i64 0,.slice none 0 0]] w0 fun e w'=>∃(b cb:Nat)(p:Option Addr)(cp:Nat)(sp2:List Value)(CX CG:Array Value),e=.returned (.slice (some ⟨b,0,none⟩) 1 cb)/\1<=cb/\Mp H rdp B nn D w' ((b,(evT tick (t:Int) 1 p cp++sp2).toArray,65)::(T,tgC P C sv mv tv (.slice (some ⟨TA,0,none⟩) n n) rv tick,80)::(TA,CS,ty1)::(X,CX,94)::(G,CG,211)::L):=by
 obtain⟨b0,o0,d0,cs0,ty0,rfl,_⟩:=id hv
 have hlen:([1,0,0,0,1,0,0,16]++r:List UInt8).length=24:=by simp[hr]
 rw[hlen] at hv |-
 have hM:=own_mp (rd:=rdp) (B:=B) (n:=nn) (D:=D) hH
 have hat:=fun (w:World) (h1:blk w T=some (.cells (tgC P C sv mv tv (.slice (some ⟨TA,0,none⟩) n n) rv tick) 80 (0,0))) (h2:blk w TA=some (.cells CS ty1 (0,0)))=>at_in (w0:=w) hn h1 h2 ht hX
 have hfr:=fun (w:World) (L':List Blk) h1 h2 h3 h4=>tframe_any hrp hH (B:=B) (nn:=nn) (D:=D) (X:=X) (Q:=Q) (G:=G) (gy:=gy) (ny:=ny) (cy:=cy) (ca:=ca) (V:=V) (t:=(t:Int)) (sd:=sd) (dr:=dr) (xv:=xv) (qs:=qs) (qf:=qf) (y:=y) (r:=r) (sp:=sp) (L:=L') (w0:=w) (tyQ:=tyQ) (dv:=.slice (some ⟨b0,o0,none⟩) 24 d0) hr hy1 hny hcy hdr hD h1 h2 h3 h4
 have c9:(tgC P C sv mv tv (.slice (some ⟨TA,0,none⟩) n n) rv tick)[9]?=some (.int .i64 tick):=rfl
 generalize tgC P C sv mv tv (.slice (some ⟨TA,0,none⟩) n n) rv tick=TC at *
 generalize xC ca V (t:Int) sd dr B Q (nob5++nob5)=CX0 at *
 generalize sessC (t:Int) 1 xv (.slice (some ⟨gy,0,none⟩) ny cy)=CG0 at *
 replace hH:=hM
 clear hM
 go_enter Tryz.func8,Tryz.ntmps8
 repeat' (first|refine ZaHm ?_|(refine ZkH ?_;clear hS;intro b w hS)|(refine Zll ?_;(refine Stp.go stp_list F1 F1 (r_eqPN F1 F1 Tryz.underlying30) ?_;refine F2 ?_))|(refine Zg ?_;go_step)|fail)
 obtain⟨b3,hb3⟩:∃x,x=b:=⟨_,rfl⟩
 rw[<-hb3] at hS |-
 clear hb3
 refine h_start (fun w=>blk w b3=some (.cells #[.int .i64 1,.int .i64 (t:Int),.int .i64 1,.slice (some ⟨b0,o0,none⟩) 24 d0,.int .i64 0,.slice none 0 0] 28 (0,0))) [0,1,2,3,4,5,6,7,8,9,10,11] E7 E7 ?_
 intro w hcq
 replace hS:=Own.call hH hS hcq
 clear hcq
 have hI:blk w b3=_:=hH.blk 0 hS rfl
 refine J8 0 hI ?_;refine H9 ?_
 refine J8 1 hI ?_;refine H9 ?_
 refine J8 2 hI ?_;refine H9 ?_
 refine A0t 3 hI (fun _ h=>h) ?_;refine H9 ?_
 refine J8 5 hI ?_;refine H9 ?_
 refine A0t 6 hI (fun _ h=>h) ?_;refine H9 ?_
 refine J8 7 hI ?_;refine H9 ?_
 refine A0t 8 hI (fun _ h=>h) ?_;refine H9 ?_
 refine R7 4 E7 F1 ?_
 repeat' (first|(refine Zll ?_;(refine g_callp stp_list hH hS (hat _ (hH.blk 1 hS rfl) (hH.blk 2 hS rfl)) ?_;clear hS;intro w hS))|(refine Zg ?_;go_step)|fail)
 refine⟨hH.blk 0 hS rfl,?_⟩
 refine R7 9 E7 F1 ?_
 refine F7 stp_list F1 F1 F1 F1 F1 E5 (hfr _ _ (A3L [_,_,_] hQm) (A3L [_,_,_] hym) (hv.mono fun x hx=>A3L [_,_,_] hx) (own_keep hH hS [3,4,0,1,2] 5 rfl)) ?_
 clear hS
 rintro e w3 ⟨b,cb,p,cp,sp2,CX,CG,rfl,q1,hS⟩
 refine⟨_,rfl,?_⟩
 refine F2 ?_
 refine ZdHm ?_;show _
 refine⟨hH.blk 3 hS rfl,?_⟩
 refine R7 10 E7 F1 ?_
 refine F7 stp_list F1 F1 F1 F1 F1 E5 (stamp_one hH q1 (T:=T) (TC:=TC) (tyT:=80) (A3l _ (A3l _ (A3l _ (A3m ..)))) c9 hS) ?_
 clear hS
 rintro e w4 ⟨rfl,hS⟩
 refine⟨_,rfl,?_⟩
 refine F2 ?_
 refine ZdHm ?_;show _
 have hI:blk w4 b3=_:=hH.blk 3 hS rfl
 refine⟨hI,?_⟩
 refine J8 11 hI ?_;refine H9 ?_
 refine h_done E7 ?_
 refine ZdHm ?_;show _
 go_ret
 exact⟨b,cb,p,cp,sp2,CX,CG,rfl,q1,own_keep hH hS [0,4,5,1,2] 6 rfl⟩
end
section
open Go.ChangeShapes Go.WideShapes Go.ChangeAt Go.RowKit
attribute [local irreducible] wpList wpListIn Oper.quietAt wpM
section
theorem num_4(n:Int)(hn:0<=n/\n<=4294967295)(w0:World) :
  Calls Tryz.prog 45 #[.int .i64 4,.int .i64 n] w0 fun e w'=>∃sv,e=.returned (.tuple #[sv,.int .i64 0])/\OwnB w0.heap.size w' sv (beB (u64W n) 4)/\Below w0.heap.size w0 w':=by
 have hS:=St.start w0
 obtain⟨N,hN⟩:∃N,(n % 18446744073709551616).toNat=N:=⟨_,rfl⟩
 have hNlt:N<18446744073709551616:=by omega
 rw[show u64W n=N from hN]
 go_enter Tryz.func45,Tryz.ntmps45
 repeat' (first|(refine Zll ?_;(refine Stp.go stp_list F1 F1 (r_convV F1 F1 E5 E5 hN) ?_;refine F2 ?_))|refine Zasm ?_|(refine Zg ?_;go_step)|fail)
 go_loopw [6,7,8] (fun u6 u7 u8 wr=>∃(k:Nat)(Lr:List Blk),k<=4/\u8=.int .i64 (k:Int)/\u6=.int .u64 ((N / 256 ^ k:Nat):Int)/\BL (beB N k) u7 Lr/\St w0 wr Lr) (fun _ _ u8 _=>4 - (intOf u8).toNat)
 case atStart=>exact⟨0,[],by omega,rfl,by simp,.inl ⟨rfl,beB_zero N,rfl⟩,hS⟩
 case round =>
  obtain⟨k,Lr,hk,rfl,rfl,hR,hS⟩:=hrel
  by_cases hlt:k<4
  ·obtain⟨M,hM⟩:∃M,N / 256 ^ k=M:=⟨_,rfl⟩
   have hMlt:M<18446744073709551616:=by rw[<-hM];exact Nat.lt_of_le_of_lt (Nat.div_le_self _ _) hNlt
   have hM2:N / 256 ^ (k+1)=M / 256:=by rw[<-hM,Nat.pow_succ,A5G]
   have hbe:beB N (k+1)=UInt8.ofNat M::beB N k:=by rw[A1k,hM]
   have hz:((M:Int) % 256) % 256=((UInt8.ofNat M).toNat:Int):=by
    have:(UInt8.ofNat M).toNat=M % 256:=by simp
    rw[this];omega
   have hl:(beB N k).length=k:=H6 _ _
   rw[hM]
   repeat' (first|refine Zasm ?_|(refine Zks ?_;clear hS;intro b w hS)|(refine Zg ?_;go_step)|fail)
   rcases hR with⟨rfl,e0,rfl⟩|⟨g,c,sp,rfl,h1,h2,h3,rfl⟩
   ·refine Stp.go stp_list F1 F1 (r_appendN F1 F1 F1 E5 (A3t _)) ?_
    refine F2 ?_
    refine Zdsm ?_;show _
    go_roundw
    case rel=>exact⟨k+1,_,by omega,by push_cast;rfl,by rw[hM2];push_cast;rfl,by rw[hbe,e0];exact .inr ⟨_,1,[],rfl,A3t _,by decide,rfl,rfl⟩,hS⟩
    case measure=>(simp[intOf];omega)
   ·have h2':=h2
    unfold maxLen at h2'
    refine J9 stp_list own_st hS F1 F1 F1 F1 E5 E3 (olds:=[UInt8.ofNat M].map bv) (spare:=[]) F1 F1 (A3t _) F1 (F8 (pre:=[]) (off:=0) (hS.blk 1 rfl) rfl rfl rfl h1).srcs D0 (R9 _) D9 rfl ?_
    clear hS
    intro b' c' sp' w' k1 k2 k3 hS
    refine F2 ?_
    refine Zdsm ?_;show _
    go_roundw
    case rel=>exact⟨k+1,[_],by omega,by push_cast;rfl,by rw[hM2];push_cast;rfl,by rw[hbe];exact .inr ⟨b',c',sp',by rw[A3D,Nat.add_comm],by rw[A3D];omega,k2,by rw[A3D];omega,rfl⟩,hS.take 1⟩
    case measure=>(simp[intOf];omega)
  ·obtain rfl:k=4:=by omega
   refine Zdsm ?_;intro _ _ _
   go_ret2
   exact⟨_,rfl,hR.own hS (fun x hx=>hx),hS.below⟩
theorem BL.append{l:List UInt8}{v:Value}{Lr:List Blk}(h:BL l v Lr)(hl:l≠[]):∃g c sp,v=.slice (some ⟨g,0,none⟩) l.length c/\l.length<=c/\c<=maxLen/\sp.length=(c - l.length)/\Lr=[(g,(l.map bv++sp).toArray,5)]:=by
 rcases h with⟨_,rfl,_⟩|⟨g,c,sp,h1,h2,h3,h4,h5⟩
 ·exact absurd rfl hl
 ·exact⟨g,c,sp,h1,h2,h3,h4,h5⟩
section
variable{l:List UInt8}{w0:World}
theorem rrow_16(hl:l.length=16){v:Value}(hv:BytesAt w0 v l):Calls Tryz.prog 46 #[v] w0 fun e w'=>∃q c,e=.returned (.slice (some q) 18 c)/\BytesAt w' (.slice (some q) 18 c) ([0,16]++l)/\Below w0.heap.size w0 w':=by
 obtain⟨p1,d1,rfl,_,_,hcell⟩:=id hv
 obtain⟨tb,ti,cs,ty,fr,rfl,_,_⟩:=hcell (by intro e;rw[e] at hl;simp at hl)
 rw[hl] at hv |-
 have hS:=St.start w0
 have hz1:((0:Int)) % 256=((0:UInt8).toNat:Int):=rfl
 have hz2:((16:Int)) % 256=((16:UInt8).toNat:Int):=rfl
 go_enter Tryz.func46,Tryz.ntmps46
 repeat' (first|refine Zasm ?_|(refine Zks ?_;clear hS;intro b w hS)|(refine Zg ?_;go_step)|fail)
 refine J9 stp_list own_st hS F1 F1 F1 F1 E5 E3 (olds:=[0,16].map bv) (spare:=[]) F1 F1 (A3t _) F1 (hv.below hS.below).srcs (by rw[A3u,hl]) (R9 l) D9 rfl ?_
 clear hS
 intro b' c' sp' w' k1 k2 k3 hS
 refine F2 ?_
 refine Zdsm ?_;show _
 go_ret
 exact⟨_,c',rfl,F8 (pre:=[]) (post:=sp') (off:=0) (n:=18) (c:=c') (hS.blk 0 rfl) F0 rfl (by simp[hl]) k1,hS.below⟩
theorem renc_hello(hl:l.length=16){v:Value}(hv:BytesAt w0 v l):Calls Tryz.prog 20 #[.agg #[.int .i64 1,.int .i64 1,.int .i64 0,v]] w0 fun e w'=>∃(g c:Nat)(sp:List Value),e=.returned (.tuple #[.slice (some ⟨g,0,none⟩) 24 c,.bool true])/\24<=c/\w0.heap.size<=g/\blk w' g=some (.cells (([1,0,0,0,1,0,0,16]++l:List UInt8).map bv++sp).toArray 5 (0,0))/\Below w0.heap.size w0 w':=by
 obtain⟨p1,d1,rfl,_⟩:=id hv.slice
 rw[hl] at hv |-
 have hrr:=fun w (h:Below w0.heap.size w0 w)=>rrow_16 hl (hv.below h)
 have hS:=St.start w0
 go_enter Tryz.func20,Tryz.ntmps20
 refine Zdsm ?_;clear hS;intro _ b w hS _ _
 refine F7 stp_list F1 F1 F1 F1 F1 E5 (num_4 1 E9 _) ?_
 rintro e w1 ⟨sv,rfl,ho,hB⟩
 rw[show beB (u64W 1) 4=[0,0,0,1] by decide +kernel] at ho
 obtain⟨Lr,hR,hS2⟩:=ho.join hS hB
 obtain⟨g1,c1,sp1,rfl,m1,_,_,rfl⟩:=hR.append F0
 rw[show ([0,0,0,1]:List UInt8).length=4 from rfl] at m1 |-
 replace hS:=hS2
 clear hS2 ho hB
 refine⟨_,rfl,?_⟩
 refine F2 ?_
 repeat' (first|refine Zasm ?_|(refine Zks ?_;clear hS;intro b w hS)|(refine Zg ?_;go_step)|fail)
 refine J9 stp_list own_st hS F1 F1 F1 F1 E5 E3 (olds:=[1].map bv) (spare:=[]) F1 F1 (A3t _) F1 (F8 (l:=[0,0,0,1]) (pre:=[]) (off:=0) (hS.blk 1 rfl) rfl rfl rfl m1).srcs F1 (R9 _) D9 rfl ?_
 clear hS
 intro b2 c2 s2 w' k1 k2 k3 hS
 unfold maxLen at k2
 refine F2 ?_
 repeat' (first|refine Zasm ?_|(refine Zks ?_;clear hS;intro b w hS)|(refine Zg ?_;go_step)|fail)
 refine J9 stp_list own_st hS F1 F1 F1 F1 E5 (by exact at_ 1 rfl) (olds:=[1].map bv++[0,0,0,1].map bv) (spare:=s2) F1 F1 E9 E9 (xs:=[0].map bv) (F8 (l:=[0]) (pre:=[]) (post:=[]) (off:=0) (c:=1) (hS.blk 0 rfl) rfl rfl rfl (A3t _)).srcs F1 (R9 _) D9 rfl ?_
 clear hS
 intro b3 c3 s3 w' k1 k2 k3 hS
 unfold maxLen at k2
 refine F2 ?_
 refine Zdsm ?_;intro _ _
 refine F7 stp_list F1 F1 F1 F1 F1 E5 (hrr _ hS.below) ?_
 rintro e w4 ⟨q,c4,rfl,hq,hB⟩
 refine⟨_,rfl,?_⟩
 replace hS:=hS.call hB
 clear hB
 refine F2 ?_
 refine J9 stp_list own_st hS F1 F1 F1 F1 E5 E3 (olds:=[1].map bv++[0,0,0,1].map bv++[0].map bv) (spare:=s3) F1 F1 E9 E9 hq.srcs (by simp[hl]) (R9 _) D9 rfl ?_
 clear hS
 intro b5 c5 s5 w' k1 k2 k3 hS
 unfold maxLen at k2
 refine F2 ?_
 refine Zdsm ?_;show _
 go_ret2
 exact⟨b5,c5,s5,rfl,k1,hS.low 0 rfl,by have:=hS.blk 0 rfl;simpa using this,hS.below⟩
end
end
section
def mastL:List UInt8:=[97,32,109,97,115,116,101,114,32,107,101,121,44,32,111,102,32,116,104,105,114,116,121,45,116,119,111,32,98,121,116,101]
def secsL:List Sx:=[(0,0,[0,0,1],[0,0,2]),(0,1,[0,1,1],[0,1,2]),(1,0,[1,0,1],[1,0,2]),(1,1,[1,1,1],[1,1,2])]
def cfg2:Cf:=⟨2,2,2,secsL,mastL,[40,41]⟩
theorem cfg2_good:goodC cfg2=true:=by decide +kernel
def Fz(H:World->List Blk->Prop)(bm:Nat)(cs:Array Value)(ty:TypeId)(fr:Nat × Nat)(w:World)(L:List Blk):Prop:=H w L/\Go.Proofs.YtlfbfbbdpcihfaaGreat.blk w bm=some (.cells cs ty fr)
theorem own_fz{Bd:Nat}{H:World->List Blk->Prop}(hH:Own Bd H){bm:Nat}{cs:Array Value}{ty:TypeId}{fr:Nat × Nat}(hfr:fr≠(0,0)):Own Bd (Fz H bm cs ty fr) where
 blk:=fun i _ _ _ h hi=>hH.blk i h.1 hi
 call:=fun h hb=>⟨hH.call h.1 hb,(hb.block bm (G1 h.2)).trans h.2⟩
 alloc:=fun c t h=>⟨hH.alloc c t h.1,by rw[P5,if_neg (by have:=G1 h.2;omega)];exact h.2⟩
 setRow:=fun {w} {L} i {b} {c} {t} c' h hi=>⟨hH.setRow i c' h.1 hi,by
  have h1:=hH.blk i h.1 hi
  have hne:b≠bm:=fun e=>by
   rw[e,h.2] at h1
   simp only[Option.some.injEq,Obj.cells.injEq] at h1
   exact hfr h1.2.2
  exact(setRow_other w b bm c' hne.symm).trans h.2⟩
 size:=fun h=>hH.size h.1
 add:=fun h hW hg hn hb=>⟨hH.add h.1 hW.1 hg hn hb,h.2⟩
 nodup:=fun h=>hH.nodup h.1
 sub:=fun h hx hn=>⟨hH.sub h.1 hx hn,h.2⟩
theorem s_constF{P:Program}{ops:Array Oper}{W:List Oper->Act->World->Prop}{o1 o2:Oper}{rest:List Oper}{a:Act}{w:World}{B:Nat}{H:World->List Blk->Prop}{L:List Blk}{t e len:Nat}{parts:Array (Nat × Operand)}{y:Operand}{l:List UInt8}(hs:Stp P ops W)(hH:Own B H)(hS:H w L)
  (hw1:Region.wanted o1 (yielded ops a.tmps)=true)(hop1:o1.op=.buildSlice t len parts)(hp:evi a 0 parts.toList=some (l.map bv))(hl:l.length=len)(hT:SlT P t e 1 1)(hpl:parts.toList.length=len)(hpos:0<len)(hle:len<=1000)(hte:P.underlying t=some (.slice e))(heu:P.underlying e=some (.int .u8))
  (hw2:∀b:Nat,Region.wanted o2 (yielded ops (a.put o1.dst (.slice (some ⟨b,0,none⟩) len len)).tmps)=true)(hop2:o2.op=.convert t t y)(hy:∀b:Nat,evO (a.put o1.dst (.slice (some ⟨b,0,none⟩) len len)) y=some (.slice (some ⟨b,0,none⟩) len len))
  (hk:∀(b:Nat)(w':World),Fz H b (l.map bv).toArray e (l.length,l.length+1) w' L->W rest ((a.put o1.dst (.slice (some ⟨b,0,none⟩) len len)).put o2.dst (.slice (some ⟨b,0,none⟩) len len)) w'):W (o1::o2::rest) a w:=by
 have hf:=cells_bv l
 refine hs.go hw1 (by unfold isDefer;rw[hop1]) (Q3 hop1 hp hT hpl (fun v hv=>by obtain⟨x,_,rfl⟩:=A3C.1 hv;rfl) hf E9 hpos) ?_
 refine hs.go (v:=.slice (some ⟨w.heap.size,0,none⟩) len len) (w':=w.alloc (.cells (l.map bv).toArray e ((l.map bv).toArray.size,(l.map bv).toArray.size+1))) (hw2 _) (by unfold isDefer;rw[hop2]) ?_ ?_
 ·unfold execOp;rw[hop2]
  simp only[F4 (hy _),Sem.run_bind,Go.Lib.run_convert_bytes_const w t e (l.map bv).toArray len len hte heu,Result.andThen_ok]
  rfl
 ·refine hk _ _ ⟨hH.call hS ((Below.refl _ _).alloc (A3t _) _),?_⟩
  rw[P5,if_pos rfl,A3R,A3u]
theorem config_2(w0:World):Calls Tryz.prog 19 #[.int .i64 2] w0 fun e w'=>∃v,e=.returned v/\CfgAt w' v cfg2/\Below w0.heap.size w0 w':=by
 have hS:=St.start w0
 go_enter Tryz.func19,Tryz.ntmps19
 repeat' (first|(refine Zll ?_;(refine s_constF (l:=mastL) stp_list own_st hS F1 F1 F1 F1 E5 F1 E9 E9 Tryz.underlying23 Tryz.underlying5 (fun _=>by rfl) F1 (fun _=>by rfl) ?_;clear hS;intro bm w hS;refine F2 ?_))|refine Zasm ?_|(refine Zks ?_;clear hS;intro b w hS)|(refine Zg ?_;go_step)|fail)
 have hH:=own_fz (own_st (w0:=w0)) (bm:=bm) (cs:=(mastL.map bv).toArray) (ty:=5) (fr:=(mastL.length,mastL.length+1)) E8
 refine ZdHm ?_;clear hS;intro b w w hS _ _
 refine wp_loop_rounds 3 ?_
 rw[rounds_succ]
 refine ZdHm ?_;clear hS;intro _ _ _ _ b w hS
 refine Z6 stp_list hH hS F1 F1 F1 F1 E5 (xs:=[.int .i64 40]) (L9 (hH.blk 0 hS rfl) (fun j v h=>by rw[A3x];exact h)) F1 ⟨by omega,by unfold maxLen;omega,by omega⟩ ?_
 clear hS
 intro bd0 cd0 sd0 w k1 k2 k3 hS
 unfold maxLen at k2
 replace hS:=own_keep hH hS [0,2,3] 4 rfl
 simp only[A5F,List.filterMap_nil,A4Z,A4M,A4b,A4c,A5p,A4Y,A3F,A3q] at hS
 refine F2 ?_
 refine ZdHm ?_;clear hS;intro w hS
 refine wp_loop_rounds 3 ?_
 rw[rounds_succ]
 repeat' (first|refine ZaHm ?_|(refine ZkH ?_;clear hS;intro b w hS)|(refine Zg ?_;go_step)|fail)
 rename_i tx0 z1 ty0 z2
 refine Z6 stp_list hH hS F1 F1 F1 F1 E5 (xs:=[.int .i64 0,.int .i64 0,.slice (some ⟨tx0,0,none⟩) 3 3,.slice (some ⟨ty0,0,none⟩) 3 3]) (L9 (hH.blk 0 hS rfl) (fun j v h=>by rw[A3x];exact h)) F1 ⟨by omega,by unfold maxLen;omega,by omega⟩ ?_
 clear hS
 intro bs0 cs0 ss0 w k1 k2 k3 hS
 unfold maxLen at k2
 replace hS:=own_keep hH hS [0,4,5,6,3,2] 7 rfl
 simp only[A5F,List.filterMap_nil,A4Z,A4M,A4b,A4c,A5p,A4Y,A3F,A3q] at hS
 refine F2 ?_
 refine ZdHm ?_;clear hS;intro w hS
 rw[rounds_succ]
 repeat' (first|refine ZaHm ?_|(refine ZkH ?_;clear hS;intro b w hS)|(refine Zg ?_;go_step)|fail)
 rename_i tx1 z1 ty1 z2
 refine J9 stp_list hH hS F1 F1 F1 F1 E5 (by exact at_ 3 rfl) (olds:=[.int .i64 0,.int .i64 0,.slice (some ⟨tx0,0,none⟩) 3 3,.slice (some ⟨ty0,0,none⟩) 3 3]) (spare:=ss0) F1 F1 E9 E9 (xs:=[.int .i64 0,.int .i64 1,.slice (some ⟨tx1,0,none⟩) 3 3,.slice (some ⟨ty1,0,none⟩) 3 3]) (L9 (hH.blk 0 hS rfl) (fun j v h=>by rw[A3x];exact h)) F1 (by simp[Value.oneCell']) D9 rfl ?_
 clear hS
 intro bs1 cs1 ss1 w k1 k2 k3 hS
 unfold maxLen at k2
 replace hS:=own_keep hH hS [0,4,5,6,3,2] 7 rfl
 simp only[A5F,List.filterMap_nil,A4Z,A4M,A4b,A4c,A5p,A4Y,A3F,A3q] at hS
 refine F2 ?_
 refine ZdHm ?_;clear hS;intro w hS
 rw[rounds_succ]
 refine ZdHm ?_;intro _ _
 rw[rounds_succ]
 refine ZdHm ?_;clear hS;intro _ _ _ _ b w hS
 refine J9 stp_list hH hS F1 F1 F1 F1 E5 (by exact at_ 2 rfl) (olds:=[.int .i64 40]) (spare:=sd0) F1 F1 E9 E9 (xs:=[.int .i64 41]) (L9 (hH.blk 0 hS rfl) (fun j v h=>by rw[A3x];exact h)) F1 (by simp[Value.oneCell']) D9 rfl ?_
 clear hS
 intro bd1 cd1 sd1 w k1 k2 k3 hS
 unfold maxLen at k2
 have kd1:=k1
 replace hS:=own_keep hH hS [2,0,3,4] 5 rfl
 simp only[A5F,List.filterMap_nil,A4Z,A4M,A4b,A4c,A5p,A4Y,A3F,A3q] at hS
 refine F2 ?_
 refine ZdHm ?_;clear hS;intro w hS
 refine wp_loop_rounds 3 ?_
 rw[rounds_succ]
 repeat' (first|refine ZaHm ?_|(refine ZkH ?_;clear hS;intro b w hS)|(refine Zg ?_;go_step)|fail)
 rename_i tx2 z1 ty2 z2
 refine J9 stp_list hH hS F1 F1 F1 F1 E5 (by exact at_ 3 rfl) (olds:=[.int .i64 0,.int .i64 0,.slice (some ⟨tx0,0,none⟩) 3 3,.slice (some ⟨ty0,0,none⟩) 3 3]++[.int .i64 0,.int .i64 1,.slice (some ⟨tx1,0,none⟩) 3 3,.slice (some ⟨ty1,0,none⟩) 3 3]) (spare:=ss1) F1 F1 E9 E9 (xs:=[.int .i64 1,.int .i64 0,.slice (some ⟨tx2,0,none⟩) 3 3,.slice (some ⟨ty2,0,none⟩) 3 3]) (L9 (hH.blk 0 hS rfl) (fun j v h=>by rw[A3x];exact h)) F1 (by simp[Value.oneCell']) D9 rfl ?_
 clear hS
 intro bs2 cs2 ss2 w k1 k2 k3 hS
 unfold maxLen at k2
 replace hS:=own_keep hH hS [0,4,5,6,3,2] 7 rfl
 simp only[A5F,List.filterMap_nil,A4Z,A4M,A4b,A4c,A5p,A4Y,A3F,A3q] at hS
 refine F2 ?_
 refine ZdHm ?_;clear hS;intro w hS
 rw[rounds_succ]
 repeat' (first|refine ZaHm ?_|(refine ZkH ?_;clear hS;intro b w hS)|(refine Zg ?_;go_step)|fail)
 rename_i tx3 z1 ty3 z2
 refine J9 stp_list hH hS F1 F1 F1 F1 E5 (by exact at_ 3 rfl) (olds:=[.int .i64 0,.int .i64 0,.slice (some ⟨tx0,0,none⟩) 3 3,.slice (some ⟨ty0,0,none⟩) 3 3]++[.int .i64 0,.int .i64 1,.slice (some ⟨tx1,0,none⟩) 3 3,.slice (some ⟨ty1,0,none⟩) 3 3]++[.int .i64 1,.int .i64 0,.slice (some ⟨tx2,0,none⟩) 3 3,.slice (some ⟨ty2,0,none⟩) 3 3]) (spare:=ss2) F1 F1 E9 E9 (xs:=[.int .i64 1,.int .i64 1,.slice (some ⟨tx3,0,none⟩) 3 3,.slice (some ⟨ty3,0,none⟩) 3 3]) (L9 (hH.blk 0 hS rfl) (fun j v h=>by rw[A3x];exact h)) F1 (by simp[Value.oneCell']) D9 rfl ?_
 clear hS
 intro bs3 cs3 ss3 w k1 k2 k3 hS
 unfold maxLen at k2
 have k1':=k1
 replace hS:=own_keep hH hS [0,4,5,6,3,2] 7 rfl
 simp only[A5F,List.filterMap_nil,A4Z,A4M,A4b,A4c,A5p,A4Y,A3F,A3q] at hS
 refine F2 ?_
 refine ZdHm ?_;clear hS;intro w hS
 rw[rounds_succ]
 refine ZdHm ?_;intro _ _
 rw[rounds_succ]
 refine ZdHm ?_;clear hS;intro _ _ w hS
 have hsec:SecAt w (.slice (some ⟨bs3,0,none⟩) (1+1+1+1) cs3) secsL:=by
  refine⟨[(.slice (some ⟨tx0,0,none⟩) 3 3,.slice (some ⟨ty0,0,none⟩) 3 3),(.slice (some ⟨tx1,0,none⟩) 3 3,.slice (some ⟨ty1,0,none⟩) 3 3),(.slice (some ⟨tx2,0,none⟩) 3 3,.slice (some ⟨ty2,0,none⟩) 3 3),(.slice (some ⟨tx3,0,none⟩) 3 3,.slice (some ⟨ty3,0,none⟩) 3 3)],fun i a m x y hi=>?_,_,cs3,rfl,k1',(fun h=>by cases h),fun _=>⟨bs3,0,_,_,_,rfl,hH.blk 0 hS rfl,fun i a m x y sv tv hi hv=>?_⟩⟩
  ·rcases i with _|_|_|_|i
   ·cases hi;exact⟨_,_,rfl,(F8 (l:=[0,0,1]) (pre:=[]) (post:=[]) (off:=0) (n:=3) (c:=3) (hH.blk 10 hS rfl) rfl rfl rfl (A3t _)),(F8 (l:=[0,0,2]) (pre:=[]) (post:=[]) (off:=0) (n:=3) (c:=3) (hH.blk 11 hS rfl) rfl rfl rfl (A3t _)),by unfold PK.okI;decide,by unfold PK.okI;decide,by unfold maxLen;simp,by unfold maxLen;simp⟩
   ·cases hi;exact⟨_,_,rfl,(F8 (l:=[0,1,1]) (pre:=[]) (post:=[]) (off:=0) (n:=3) (c:=3) (hH.blk 8 hS rfl) rfl rfl rfl (A3t _)),(F8 (l:=[0,1,2]) (pre:=[]) (post:=[]) (off:=0) (n:=3) (c:=3) (hH.blk 9 hS rfl) rfl rfl rfl (A3t _)),by unfold PK.okI;decide,by unfold PK.okI;decide,by unfold maxLen;simp,by unfold maxLen;simp⟩
   ·cases hi;exact⟨_,_,rfl,(F8 (l:=[1,0,1]) (pre:=[]) (post:=[]) (off:=0) (n:=3) (c:=3) (hH.blk 6 hS rfl) rfl rfl rfl (A3t _)),(F8 (l:=[1,0,2]) (pre:=[]) (post:=[]) (off:=0) (n:=3) (c:=3) (hH.blk 7 hS rfl) rfl rfl rfl (A3t _)),by unfold PK.okI;decide,by unfold PK.okI;decide,by unfold maxLen;simp,by unfold maxLen;simp⟩
   ·cases hi;exact⟨_,_,rfl,(F8 (l:=[1,1,1]) (pre:=[]) (post:=[]) (off:=0) (n:=3) (c:=3) (hH.blk 4 hS rfl) rfl rfl rfl (A3t _)),(F8 (l:=[1,1,2]) (pre:=[]) (post:=[]) (off:=0) (n:=3) (c:=3) (hH.blk 5 hS rfl) rfl rfl rfl (A3t _)),by unfold PK.okI;decide,by unfold PK.okI;decide,by unfold maxLen;simp,by unfold maxLen;simp⟩
   ·simp[secsL] at hi
  ·rcases i with _|_|_|_|i
   ·cases hi;cases hv;exact⟨rfl,rfl,rfl,rfl⟩
   ·cases hi;cases hv;exact⟨rfl,rfl,rfl,rfl⟩
   ·cases hi;cases hv;exact⟨rfl,rfl,rfl,rfl⟩
   ·cases hi;cases hv;exact⟨rfl,rfl,rfl,rfl⟩
   ·simp[secsL] at hi
 have hsd:OwAt (fun x=>[Value.int .i64 x]) w (.slice (some ⟨bd1,0,none⟩) (1+1) cd1) [40,41]:=by
  refine⟨_,cd1,rfl,kd1,(fun h=>by cases h),fun _=>⟨bd1,0,_,_,_,rfl,hH.blk 1 hS rfl,fun j x hx=>?_⟩⟩
  rcases j with _|_|j
  ·cases hx;rfl
  ·cases hx;rfl
  ·simp at hx
 have hmb:BytesAt w (.slice (some ⟨bm,0,none⟩) 32 32) mastL:=F8 (l:=mastL) (pre:=[]) (post:=[]) (off:=0) (n:=32) (c:=32) hS.2 F0 rfl rfl (A3t _)
 exact G2 (n:=6) Tryz.results19 E7 (.inl rfl) _ _ _ _ rfl rfl (hH.blk 3 hS rfl) F1 ⟨_,rfl,⟨_,_,_,rfl,hsec,hmb,hsd,by unfold PK.okI;decide,by unfold PK.okI;decide,by unfold PK.okI;decide,by decide,by decide,by decide⟩,hS.1.below⟩
end
end
section
open Go.ChangeShapes Go.WideShapes Go.ChangeAt Go.RowKit
attribute [local irreducible] wpList wpListIn Oper.quietAt wpM
open Go.Maps
attribute [local irreducible] shaL tagL
theorem own_pick{Bd:Nat}{H:World->List Blk->Prop}(hH:Own Bd H){w:World}{L:List Blk}(h:H w L)(Ys:List Blk)(hY:∀y∈Ys,y∈L)(hn:(Ys.map (·.1)).Nodup):∃L',H w (Ys++L')/\∀x∈L,x∉Ys->x∈L':=by
 have hN:=hH.nodup h
 refine⟨L.filter fun x => !(Ys.map (·.1)).contains x.1,hH.sub h (fun x hx=>?_) ?_,fun x hx hno=>A5t.2 ⟨hx,?_⟩⟩
 ·rcases A3Y.1 hx with hx|hx
  ·exact hY x hx
  ·exact(A5t.1 hx).1
 ·rw[A3J,A5e]
  refine⟨hn,hN.sublist (List.filter_sublist.map _),fun a ha b hb e=>?_⟩
  subst e
  obtain⟨x,hx,rfl⟩:=A3C.1 hb
  have:=(A5t.1 hx).2
  simp only[A4F,List.contains_eq_mem,decide_eq_false_iff_not] at this
  exact this ha
 ·simp only[A4F,List.contains_eq_mem,decide_eq_false_iff_not]
  intro hm
  obtain⟨y,hy,he⟩:=A3C.1 hm
  exact hno (key_uniq hN hx (hY y hy) he.symm ▸ hy)
theorem talive_any{rd rdp:Rdr}(hrd:RdCel rd)(hrp:RdPtr rdp)(w0:World):Calls Tryz.prog 4 #[] w0 fun e w'=>e=.returned (.bool true)/\Below w0.heap.size w0 w':=by
 have hS:=St.start w0
 go_enter Tryz.func4,Tryz.ntmps4
 refine Zdsm ?_;intro _ _ _
 refine F7 stp_list F1 F1 F1 F1 F1 E5 (config_2 _) ?_
 rintro e w2 ⟨v,rfl,hcf,hB⟩
 obtain⟨sv1,mv1,dv1,rfl,_⟩:=id hcf
 refine⟨_,rfl,?_⟩
 replace hS:=hS.call hB
 clear hB
 refine F2 ?_
 refine F7 stp_list F1 F1 F1 F1 F1 E5 (tnew_ok hrd hrp cfg2 cfg2_good _ _ hcf (n:=2) rfl) ?_
 rintro e w3 ⟨w1,T,rfl,hB,g,TA,CS,X,Q,B,su,co,Lx,nn,D,sv,mv,dv,rv,hCS,hD,hten,hmp,hse⟩
 refine⟨_,rfl,?_⟩
 have hBW:=hS.below.trans (hB.mono hS.below.size)
 clear hS hB hcf
 have hH:=own_mp (rd:=rdp) (B:=B (2 - 1)) (n:=nn) (D:=D) (own_dk (rd:=rd) (w0:=w1) (g:=g) (F:=Fon) (N:=117*2) (su:=su) (l:=[]) (co:=co))
 obtain⟨hX0,ca0,V0,b10,kq0,ct0,hv0,lv0,kv0,M0,tv0,U0,c0,m01,m02,_,_,_⟩:=hten 0 E9
 obtain⟨hX1,ca1,V1,b11,kq1,ct1,hv1,lv1,kv1,M1,tv1,U1,c1,m11,m12,_,_,_⟩:=hten 1 E9
 obtain⟨gs,gy,cy,sp,x',k1,k2,k3,k4⟩:=hse 1 [1,1,1] [1,1,2] E8 F1
 clear hten hse
 have hS:Mp (fun w L=>Dk rd w1 g Fon (117*2) su [] co w L) rdp (B (2 - 1)) nn D w3 _:=⟨hD,hmp⟩
 clear hD hmp
 refine F2 ?_
 repeat' (first|refine ZaHm ?_|(refine ZkH ?_;clear hS;intro b w hS)|(refine Zll ?_;(refine Stp.go stp_list F1 F1 (r_eqPN F1 F1 Tryz.underlying30) ?_;refine F2 ?_))|(refine Zg ?_;go_step)|fail)
 refine F7 stp_list F1 F1 F1 F1 F1 E5 (renc_hello (zs_len 16) (F8 (pre:=[]) (post:=[]) (off:=0) (n:=16) (c:=16) (hH.blk 0 hS rfl) (by simp[bvs]) rfl (zs_len 16) (A3t _))) ?_
 rintro e w4 ⟨ge,ce,se,rfl,e1,e2,e3,hB⟩
 refine⟨_,rfl,?_⟩
 replace hS:=hH.new hS hB e2 e3
 clear e2 e3 hB
 refine F2 ?_
 refine ZdHm ?_;intro _ _
 refine F7 stp_list F1 F1 F1 F1 F1 E5 (do_tick hH (C:=cfg2) (k:=0) (n:=2) rfl ⟨by omega,by omega⟩ E9 hX0 (A3L [_,_] m01) rfl rfl (A3L [_,_] m02) (own_keep hH hS [2,3,0,1] 4 rfl)) ?_
 clear hS
 rintro e w5 ⟨rfl,hS⟩
 refine⟨_,rfl,?_⟩
 refine F2 ?_
 refine ZdHm ?_;intro _ _
 have hN:=hH.nodup hS
 have mX:=A3l (T,tgC g.P cfg2 sv mv dv (.slice (some ⟨TA,0,none⟩) 2 2) rv ((0+1:Nat):Int),80) (A3l (TA,CS,83) (A3L [(ge,(([1,0,0,0,1,0,0,16]++zs 16:List UInt8).map bv++se).toArray,5),(b,bvs (zs 16),5)] m11))
 have mG:=A3l (T,tgC g.P cfg2 sv mv dv (.slice (some ⟨TA,0,none⟩) 2 2) rv ((0+1:Nat):Int),80) (A3l (TA,CS,83) (A3L [(ge,(([1,0,0,0,1,0,0,16]++zs 16:List UInt8).map bv++se).toArray,5),(b,bvs (zs 16),5)] k3))
 have nTX:T≠X 1:=fun e=>by have:=key_uniq hN (A3m ..) mX e;simp at this
 have nTG:T≠gs:=fun e=>by have:=key_uniq hN (A3m ..) mG e;simp at this
 have nAX:TA≠X 1:=fun e=>by have:=key_uniq hN (A3l _ (A3m ..)) mX e;simp at this
 have nAG:TA≠gs:=fun e=>by have:=key_uniq hN (A3l _ (A3m ..)) mG e;simp at this
 have nTA:T≠TA:=fun e=>by have:=key_uniq hN (A3m ..) (A3l _ (A3m ..)) e;simp at this
 have nXG:X 1≠gs:=fun e=>by have:=key_uniq hN mX mG e;simp at this
 obtain⟨L',hS2,hno⟩:=own_pick hH hS [_,_,_,_] (fun y hy=>by
  simp only[A3G,A3W,or_false] at hy
  rcases hy with rfl|rfl|rfl|rfl
  ·exact A3m ..
  ·exact A3l _ (A3m ..)
  ·exact mX
  ·exact mG) (by simp[nTX,nTG,nAX,nAG,nTA,nXG])
 have mQ:=hno _ (A3l _ (A3l _ (A3L _ m12))) F0
 have mY:=hno _ (A3l _ (A3l _ (A3L _ k4))) F0
 have mE:=hno _ (A3l _ (A3l _ (A4B _ (A3m ..)))) F0
 clear hS hno hN mX mG nTX nTG nAX nAG nTA nXG
 have hv:=bytesM_at (c:=ce) mE (by rw[A3k,zs_len];exact e1)
 rw[show ([1,0,0,0,1,0,0,16]++zs 16:List UInt8).length=24 by rw[A3k,zs_len];rfl] at hv
 have hS:=hS2
 clear hS2
 refine F7 stp_list F1 F1 F1 F1 F1 E5 (do_frame hrp own_dk (C:=cfg2) (n:=2) (t:=1) E9 E9 hX1 (zs_len 16) E8 rfl k2 ⟨by omega,by omega⟩ k1 mQ mY hv hS) ?_
 clear hS
 rintro e w6 ⟨b6,cb6,p6,cp6,sp6,CX,CG,rfl,q6,hS⟩
 refine⟨_,rfl,?_⟩
 refine F2 ?_
 unfold evT at hS
 repeat' (first|refine ZaHm ?_|(refine Zll ?_;(refine g_callp stp_list hH hS (tick_any (hH.blk 1 hS rfl)) ?_;clear hS;intro w hS))|(refine Zg ?_;go_step)|fail)
 refine F7 stp_list F1 F1 F1 F1 F1 E5 (image_any hrd hS.1 (A3l _ (A3m ..))) ?_
 rintro e w7 ⟨⟨p7,c7,rfl⟩,hB⟩
 refine⟨_,rfl,?_⟩
 replace hS:=hH.call hS hB
 clear hB
 refine F2 ?_
 refine ZdHm ?_;show _
 have hb2:=hBW.trans ((Dk.below hS.1).mono hBW.size)
 go_ret
 exact⟨rfl,hb2⟩
end
end Go.Proofs.YtlfbfbbdpcihfaaGreat
