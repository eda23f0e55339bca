/- Laws that the claim uses. No condition of their own. -/
import Derived.Test.YtlfbfbbdpcihfaaGreatJ31
set_option maxRecDepth 100000
set_option maxHeartbeats 8000000
set_option linter.all false
namespace Go.Proofs.YtlfbfbbdpcihfaaGreat
section
open Go.ChangeShapes Go.WideShapes Go.ChangeAt Go.RowKit
attribute [local irreducible] wpList wpListIn Oper.quietAt wpM
section
variable{rd:Rdr}{w00 w0:World}{g:G4}{N:Nat}{su:List UInt8}{l:List Pt}{co:List Int}{L:List Blk}
theorem pwrite_on(hrd:RdCel rd)(hD:Dk rd w00 g Fon N su l co w0 L)(cn bs:Int)(hbs:0<=bs/\bs<=2048)(ps:List Pt)(pv:Value)(hps:PutsM L pv ps)(hin:∀x∈ps,0<=x.1/\bs+x.1<(N:Int))(hlen:l.length+ps.length<100000) :
  Calls Tryz.prog 126 #[.agg #[.pointer (some ⟨g.P,0,none⟩),.int .i64 cn,.int .i64 bs],pv] w0 fun e w'=>e=.returned .nilIface/\Dk rd w00 g Fon N su (l++shiftP bs ps) co w' L:=by
 obtain⟨ho,hpv⟩:=hps
 have hNN:=hD.ok.1
 obtain⟨n,hn⟩:∃n,ps.length=n:=⟨_,rfl⟩
 obtain⟨p,c,rfl,hp⟩:∃p c,pv=.slice p n c/\(0<n->∃(b o:Nat)(cs:Array Value)(ty:TypeId),p=some ⟨b,o,none⟩/\(b,cs,ty)∈L/\∀j x,(putsC ps)[j]?=some x->cs[o+j]?=some x):=by
  rcases hpv with⟨rfl,rfl⟩|⟨b,o,c,cs,ty,rfl,h2,h3,h4⟩
  ·subst hn;exact⟨none,0,rfl,fun h=>by simp at h⟩
  ·subst hn;exact⟨_,_,rfl,fun _=>⟨b,o,cs,ty,rfl,h3,h4⟩⟩
 rw[hn] at hlen
 have hS:=hD
 have h100:n<100000:=by omega
 go_enter Tryz.func126,Tryz.ntmps126
 refine ZdKm ?_;clear hS;intro _ b w hS _ _
 go_loopw [10] (fun u10 wr=>∃k:Nat,k<=n/\u10=.int .i64 (k:Int)/\Dk rd w00 g Fon N su (l++shiftP bs (ps.take k)) co wr ((b,#[.pointer (some ⟨g.P,0,none⟩),.int .i64 cn,.int .i64 bs],126)::L)) (fun u10 _=>n - (intOf u10).toNat)
 case atStart=>exact⟨0,by omega,rfl,by rw[A4g,show shiftP bs []=[] from rfl,A3Q];exact hS⟩
 case round =>
  clear hS hD
  obtain⟨k,hk,rfl,hS⟩:=hrel
  by_cases hlt:k<n
  ·obtain⟨⟨a,C⟩,hx⟩:∃x,ps[k]?=some x:=⟨_,A3p E9⟩
   obtain⟨b0,o0,cs,ty,rfl,hb,hcc⟩:=hp E9
   obtain⟨lC,d1,d2,d3,d4⟩:=put_cells ho hcc hx
   have hxr:=hin _ (A4d hx)
   obtain⟨hx1,hx2⟩:=hxr
   dsimp only at hx1 hx2
   have s1:csz (hdV a C)=129:=by rw[J3,lC]
   have sZ:csz (hdV 0 (zs 128))=129:=by rw[J3,zs_len]
   have hcut:cut (hdV a C) 1 128=bvs C:=by
    have:=hd_cut a (B:=C) (o:=0) (m:=128) E9
    rwa [A4Y,A3B E9] at this
   have htk:l++shiftP bs (ps.take (k+1))=l++shiftP bs (ps.take k)++[(bs+a,C)]:=by
    rw[A5f,hx]
    unfold shiftP
    rw[A3J,A3K];rfl
   have hll:(l++shiftP bs (ps.take k)).length<100000:=by rw[A3k,shiftP_len,A3s];omega
   repeat' (first|(refine Zll ?_;(refine I1 stp_list own_dk hS ?_ (hv:=N3 _ _);clear hS;intro w hS;refine F2 ?_))|refine ZbKm ?_|(refine Zll ?_;((first|refine J0 stp_list own_dk hS ?_ (hv:=by(exact hcut))|refine K3 stp_list (by exact Own.mem own_dk hS (by repeat (first|exact hb|refine A3l _ ?_))) ?_ (hv:=by(exact d2)))<;>refine F2 ?_))|(refine ZkK ?_;clear hS;intro b w hS)|(refine Zg ?_;go_step)|fail)
   refine F7 stp_list F1 F1 F1 F1 F1 E5 (write_on hrd hS (bs+a) C ⟨by omega,hx2⟩ lC hll) ?_
   clear hS
   rintro e w3 ⟨rfl,hS⟩
   refine⟨_,rfl,?_⟩
   rw[<-htk] at hS
   refine F2 ?_
   refine ZdKm ?_;show _
   go_roundw
   case rel=>exact⟨k+1,by omega,by push_cast;rfl,own_dk.drop hS⟩
   case measure=>(simp[intOf];omega)
  ·obtain rfl:k=n:=by omega
   rw[A3B E9] at hS
   refine ZdKm ?_;intro _ _ _
   go_ret
   exact⟨rfl,own_dk.drop hS⟩
theorem Dk.blkP{F:Bool->Int->Bool->Prop}{w:World}(h:Dk rd w00 g F N su l co w L):∃ar lf dn st,blk w g.P=some (.cells (pC ar lf dn st g.S g.C g.B N co.length) 115 (0,0))/\blk w g.C=some (.cells (vints co) 3 (0,0)):=by
 obtain⟨ar,lf,dn,st,D,_,_,_,_,_,hS⟩:=h
 exact⟨ar,lf,dn,st,MP.own_stM.blk 0 hS rfl,MP.own_stM.blk 2 hS rfl⟩
theorem Dk.start{F:Bool->Int->Bool->Prop}{w w':World}(h:Dk rd w00 g F N su l co w L)(hb:Below w.heap.size w w'):Dk rd w00 g F N su l co w' L:=own_dk.call h hb
theorem A2K(hrd:RdCel rd)(hD:Dk rd w00 g Fon N su [] co w0 L)(cn bs:Int)(hbs:0<=bs/\bs<=2048)(za n:Nat)(hn:bs+za+n<=(N:Int))(hz:za<=2048/\n<=2048) :
  Calls Tryz.prog 193 #[.agg #[.pointer (some ⟨g.P,0,none⟩),.int .i64 cn,.int .i64 bs],.int .i64 (za:Int),.int .i64 (n:Int)] w0 fun e w'=>∃gx,e=.returned (.tuple #[.slice (some ⟨gx,0,none⟩) n n,.nilIface])/\w0.heap.size<=gx/\blk w' gx=some (.cells (bvs (sl su (128*(bs.toNat+za)) (128*n))) 36 (0,0))/\Below w0.heap.size w0 w':=by
 have hok:=hD.ok
 have hsu:=hok.2.1
 have hNN:=hok.1
 have hS:=St.start w0
 have hmz:madeCells (bvs (zs 128)) (n*128)=bvs (zs (128*n)):=by rw[made_cels,A5w]
 obtain⟨q1,q2⟩:=hz
 obtain⟨X,hX⟩:∃X,sl su (128*(bs.toNat+za)) (128*n)=X:=⟨_,rfl⟩
 have lX:X.length=128*n:=by rw[<-hX];exact sl_len E9
 have hcX:∀k,k<n->celX su (bs.toNat+za+k)=celX X k:=fun k hk=>by
  rw[<-hX,P3,P3,sl_sl E9]
  congr 1;omega
 rw[hX]
 clear hX
 go_enter Tryz.func193,Tryz.ntmps193
 repeat' (first|(refine Zll ?_;(refine O2 (n:=n) stp_list own_st hS F1 F1 F1 F1 E5 E5 hmz E9 E9 ?_;clear hS;intro gx w hS;refine F2 ?_))|refine Zasm ?_|(refine Zks ?_;clear hS;intro b w hS)|(refine Zg ?_;go_step)|fail)
 have hnx:∀k,k<n->paste (bvs (X.take (128*k)++zs (128*(n - k)))) (k*128) (bvs (celX X k))=bvs (X.take (128*(k+1))++zs (128*(n - (k+1)))):=fun k hk=>by
  have lk:(X.take (128*k)).length=128*k:=by rw[A3s];omega
  have lc:=celX_len lX hk
  rw[paste_owL (by rw[A3k,lk,zs_len,lc];omega)]
  unfold owL
  rw[lc,A4x E9,A4U,A3M E9,A3q,lk,celX_next,A3K]
  congr 3
  unfold zs
  rw[A4o]
  congr 1;omega
 have sO:∀k,k<=n->csz (bvs (X.take (128*k)++zs (128*(n - k))))=128*n:=fun k hk=>by rw[F3,A3k,A3s,zs_len];omega
 go_loopw [16] (fun u16 wr=>∃k:Nat,k<=n/\u16=.int .i64 (k:Int)/\St w0 wr [(gx,bvs (X.take (128*k)++zs (128*(n - k))),36),(b,#[.pointer (some ⟨g.P,0,none⟩),.int .i64 cn,.int .i64 bs],126)]) (fun u16 _=>n - (intOf u16).toNat)
 case atStart=>exact⟨0,by omega,rfl,by rw[Nat.mul_zero,A4g,A3q,A4D];exact hS⟩
 case round =>
  clear hS
  obtain⟨k,hk,rfl,hS⟩:=hrel
  by_cases hlt:k<n
  ·have hrdc:=fun w (hw:Dk rd w00 g Fon N su [] co w L)=>read_on (w0:=w) hrd hw (bs+za+k) ⟨by omega,by omega⟩
   rw[show (bs+(za:Int)+(k:Int)).toNat=bs.toNat+za+k by omega,hcX k hlt] at hrdc
   have lc:=celX_len lX hlt
   have hps:=hnx k hlt
   have sOk:=sO k hk
   obtain⟨C,hC⟩:∃C,celX X k=C:=⟨_,rfl⟩
   rw[hC] at hrdc lc hps
   have sC:csz (bvs C)=128:=by rw[F3,lc]
   have sZ:csz (bvs (zs 128))=128:=by rw[F3,zs_len]
   repeat' (first|(refine Zll ?_;(refine g_calls hS (hrdc _ (hD.start hS.below)) ?_;clear hS;intro w hS))|refine Zasm ?_|(refine Zks ?_;clear hS;intro b w hS)|(refine Ztsm ?_;clear hS;intro w hS)|(refine Zg ?_;go_step)|fail)
   rw[hps] at hS
   go_roundw
   case rel=>exact⟨k+1,by omega,by push_cast;rfl,hS.erase 0⟩
   case measure=>(simp[intOf];omega)
  ·obtain rfl:k=n:=by omega
   rw[show X.take (128*k)++zs (128*(k - k))=X by rw[A3B E9,A5K];simp[zs]] at hS
   refine Zdsm ?_;intro _ _ _
   go_ret2
   exact⟨gx,rfl,hS.low 0 rfl,hS.blk 0 rfl,hS.below⟩
def fitsP(N:Nat)(co:List Int)(cn bs:Int):Bool:=decide (0<=cn/\cn<(co.length:Int)) && decide (0<=bs) && decide (117<=(N:Int) - bs)
theorem fits_any{F:Bool->Int->Bool->Prop}(hD:Dk rd w00 g F N su l co w0 L)(cn bs:Int)(hbr:i64R bs)(q:Bool)(hq:fitsP N co cn bs=q) :
  Calls Tryz.prog 79 #[.agg #[.pointer (some ⟨g.P,0,none⟩),.int .i64 cn,.int .i64 bs]] w0 fun e w'=>e=.returned (.bool q)/\Below w0.heap.size w0 w':=by
 have hok:=hD.ok
 have hNN:=hok.1
 obtain⟨ar,lf,dn,st,hP,hC⟩:=hD.blkP
 have hS:=St.start w0
 have hct:=fun w h1 h2=>A1B (w0:=w) (p:=g.P) (ar:=ar) (dn:=dn) (lf:=lf) (st:=st) (S:=g.S) (C:=g.C) (B:=g.B) (N:=N) (fr:=(0,0)) (ty:=115) (ty2:=3) hok.2.2.2.1.2 cn h1 h2
 have hsz:=fun w h=>A2P (w0:=w) (p:=g.P) (ar:=ar) (dn:=dn) (lf:=lf) (st:=st) (S:=g.S) (C:=g.C) (B:=g.B) (K:=co.length) (N:=N) (fr:=(0,0)) (ty:=115) hNN.2 h
 unfold i64R at hbr
 by_cases h1:0<=cn/\cn<(co.length:Int)
 ·have e1:cntV co cn=.tuple #[.int .i64 (co.getD cn.toNat 0),.nilIface]:=if_pos h1
  rw[e1] at hct
  obtain⟨x,hx⟩:∃x,co.getD cn.toNat 0=x:=⟨_,rfl⟩
  rw[hx] at hct
  by_cases h2:0<=bs
  ·by_cases h3:(117:Int)<=(N:Int) - bs
   ·obtain rfl:q=true:=by rw[<-hq];unfold fitsP;simp[h1,h2,h3]
    go_enter Tryz.func79,Tryz.ntmps79
    repeat' (first|refine Zasm ?_|(refine Zks ?_;clear hS;intro b w hS)|(refine Zll ?_;(refine g_calls hS (hct _ (hS.far hP).1 (hS.far hC).1) ?_;clear hS;intro w hS))|(refine Zg ?_;go_step)|fail)
    refine F6 16 E7 E7 ?_
    dsimp only[List.take,List.drop]
    iterate 16 (first|(refine Zw ?_;apply Exists.intro;refine⟨fun pB w' hw' hF=>?_,?_⟩;(focus (have hZ:=(own_st).call hS hw';exact(G8 (hsz _ (hZ.far hP).1))));refine Zo ?_)|refine ZQm ?_|refine ZQs ?_)
    refine Zn own_st hS ?_
    clear hS
    intro pB w hS
    try dsimp only
    refine Zdsm ?_;show _
    go_ret
    exact⟨rfl,hS.below⟩
   ·obtain rfl:q=false:=by rw[<-hq];unfold fitsP;simp[h3]
    go_enter Tryz.func79,Tryz.ntmps79
    repeat' (first|refine Zasm ?_|(refine Zks ?_;clear hS;intro b w hS)|(refine Zll ?_;(refine g_calls hS (hct _ (hS.far hP).1 (hS.far hC).1) ?_;clear hS;intro w hS))|(refine Zg ?_;go_step)|fail)
    refine F6 16 E7 E7 ?_
    dsimp only[List.take,List.drop]
    iterate 16 (first|(refine Zw ?_;apply Exists.intro;refine⟨fun pB w' hw' hF=>?_,?_⟩;(focus (have hZ:=(own_st).call hS hw';exact(G8 (hsz _ (hZ.far hP).1))));refine Zo ?_)|refine ZQm ?_|refine ZQs ?_)
    refine Zn own_st hS ?_
    clear hS
    intro pB w hS
    try dsimp only
    refine Zdsm ?_;show _
    go_ret
    exact⟨rfl,hS.below⟩
  ·obtain rfl:q=false:=by rw[<-hq];unfold fitsP;simp[h2]
   go_enter Tryz.func79,Tryz.ntmps79
   repeat' (first|refine Zasm ?_|(refine Zks ?_;clear hS;intro b w hS)|(refine Zll ?_;(refine g_calls hS (hct _ (hS.far hP).1 (hS.far hC).1) ?_;clear hS;intro w hS))|(refine Zg ?_;go_step)|fail)
   refine F6 16 E7 E7 ?_
   dsimp only[List.take,List.drop]
   iterate 16 (first|refine ZQm ?_|refine ZQs ?_)
   refine Zn own_st hS ?_
   clear hS
   intro pB w hS
   try dsimp only
   refine Zdsm ?_;show _
   go_ret
   exact⟨rfl,hS.below⟩
 ·have e1:cntV co cn=.tuple #[.int .i64 0,.iface 48 (.int .i64 1)]:=if_neg h1
  rw[e1] at hct
  obtain rfl:q=false:=by
   rw[<-hq];unfold fitsP;rw[decide_eq_false h1];simp
  go_enter Tryz.func79,Tryz.ntmps79
  repeat' (first|refine Zasm ?_|(refine Zks ?_;clear hS;intro b w hS)|(refine Zll ?_;(refine g_calls hS (hct _ (hS.far hP).1 (hS.far hC).1) ?_;clear hS;intro w hS))|(refine Zg ?_;go_step)|fail)
  refine F6 16 E7 E7 ?_
  dsimp only[List.take,List.drop]
  iterate 16 (refine ZQm ?_)
  refine Zn own_st hS ?_
  clear hS
  intro pB w hS
  try dsimp only
  refine Zdsm ?_;show _
  go_ret
  exact⟨rfl,hS.below⟩
end
end
section
open Go.ChangeShapes Go.WideShapes Go.ChangeAt Go.RowKit
section
def putW(l k:List UInt8)(i:Nat):List UInt8:=l.take (8*i)++(k++l.drop (8*i+8))
def wordAt(l:List UInt8)(i:Nat):List UInt8:=(l.drop (8*i)).take 8
theorem A0j{l:List UInt8}{i:Nat}(h:8*i+8<=l.length):(wordAt l i).length=8:=by unfold wordAt;simp;omega
theorem putW_len{l k:List UInt8}{i:Nat}(h:8*i+8<=l.length)(hk:k.length=8):(putW l k i).length=l.length:=by unfold putW;simp;omega
theorem wordAt_put{l k:List UInt8}{i:Nat}(h:8*i+8<=l.length)(hk:k.length=8):wordAt (putW l k i) i=k:=by
 have h1:(l.take (8*i)).length=8*i:=by simp;omega
 unfold wordAt putW
 rw[A4H E9,A3M E9,A3q,A4q E9,A3B E9]
theorem putW_put{l k k':List UInt8}{i:Nat}(h:8*i+8<=l.length)(hk:k.length=8):putW (putW l k i) k' i=putW l k' i:=by
 have h1:(l.take (8*i)).length=8*i:=by simp;omega
 have h2:(l.take (8*i)++(k++l.drop (8*i+8))).drop (8*i+8)=l.drop (8*i+8):=by
  rw[<-A3K,A4H E6,A3M E6,A3q]
 unfold putW
 rw[h2,A4q E9,A3B E9]
theorem putW_self{l:List UInt8}{i:Nat}:putW l (wordAt l i) i=l:=by
 unfold putW wordAt
 rw[<-A3K,<-A5C,A3O]
def wStep(E:List UInt8->List UInt8)(n:Nat)(x:List UInt8 × List UInt8)(s:Nat):List UInt8 × List UInt8 :=
 (xorL ((E (x.1++wordAt x.2 (s % n))).take 8) (beB (s+1) 8),putW x.2 ((E (x.1++wordAt x.2 (s % n))).drop 8) (s % n))
def uStep(D:List UInt8->List UInt8)(n:Nat)(x:List UInt8 × List UInt8)(s:Nat):List UInt8 × List UInt8 :=
 ((D (xorL x.1 (beB (s+1) 8)++wordAt x.2 (s % n))).take 8,putW x.2 ((D (xorL x.1 (beB (s+1) 8)++wordAt x.2 (s % n))).drop 8) (s % n))
def InForm(n:Nat)(x:List UInt8 × List UInt8):Prop:=x.1.length=8/\x.2.length=8*n
theorem word_fits{n s:Nat}(hn:0<n):8*(s % n)+8<=8*n:=by have:=Nat.mod_lt s hn;omega
theorem wStep_form{E:List UInt8->List UInt8}(hE:∀x,x.length=16->(E x).length=16){n:Nat}(hn:0<n){x:List UInt8 × List UInt8}(hx:InForm n x)(s:Nat):InForm n (wStep E n x s):=by
 have hw:=word_fits (s:=s) hn
 have h1:=A0j (l:=x.2) (i:=s % n) (by rw[hx.2];exact hw)
 have h2:=hE (x.1++wordAt x.2 (s % n)) (by rw[A3k,hx.1,h1])
 exact⟨P2 _ _ 8 (by rw[A3s,h2];rfl) (H6 _ _),by unfold wStep;rw[putW_len (by rw[hx.2];exact hw) (by rw[A3H,h2])];exact hx.2⟩
theorem uStep_form{D:List UInt8->List UInt8}(hD:∀x,x.length=16->(D x).length=16){n:Nat}(hn:0<n){x:List UInt8 × List UInt8}(hx:InForm n x)(s:Nat):InForm n (uStep D n x s):=by
 have hw:=word_fits (s:=s) hn
 have h1:=A0j (l:=x.2) (i:=s % n) (by rw[hx.2];exact hw)
 have h0:=P2 x.1 (beB (s+1) 8) 8 hx.1 (H6 _ _)
 have h2:=hD (xorL x.1 (beB (s+1) 8)++wordAt x.2 (s % n)) (by rw[A3k,h0,h1])
 exact⟨by unfold uStep;rw[A3s,h2];rfl,by unfold uStep;rw[putW_len (by rw[hx.2];exact hw) (by rw[A3H,h2])];exact hx.2⟩
theorem u_of_w{E D:List UInt8->List UInt8}(hE:∀x,x.length=16->(E x).length=16)(hDE:∀x,x.length=16->D (E x)=x){n:Nat}(hn:0<n){x:List UInt8 × List UInt8}(hx:InForm n x)(s:Nat):uStep D n (wStep E n x s) s=x:=by
 have hw:=word_fits (s:=s) hn
 have hx1:x.1.length=8:=hx.1
 have h1:=A0j (l:=x.2) (i:=s % n) (by rw[hx.2];exact hw)
 have hl:(x.1++wordAt x.2 (s % n)).length=16:=by rw[A3k,hx.1,h1]
 have h2:=hE _ hl
 have h3:=hDE _ hl
 have ht:((E (x.1++wordAt x.2 (s % n))).take 8).length=8:=by rw[A3s,h2];rfl
 have hd:((E (x.1++wordAt x.2 (s % n))).drop 8).length=8:=by rw[A3H,h2]
 unfold uStep
 have e1:(wStep E n x s).1=xorL ((E (x.1++wordAt x.2 (s % n))).take 8) (beB (s+1) 8):=rfl
 have e2:(wStep E n x s).2=putW x.2 ((E (x.1++wordAt x.2 (s % n))).drop 8) (s % n):=rfl
 rw[e1,e2,xorL_twice (by rw[ht,H6]),wordAt_put (by rw[hx.2];exact hw) hd,A3O,h3,putW_put (by rw[hx.2];exact hw) hd,
  A4q E9,A3B E9,A4H E9,A3M E9,A3q,putW_self]
def wSteps(E:List UInt8->List UInt8)(n:Nat)(x:List UInt8 × List UInt8):Nat->List UInt8 × List UInt8
 | 0=>x
 | s+1=>wStep E n (wSteps E n x s) s
def uSteps(D:List UInt8->List UInt8)(n:Nat)(x:List UInt8 × List UInt8):Nat->List UInt8 × List UInt8
 | 0=>x
 | s+1=>uSteps D n (uStep D n x s) s
theorem A0o{E:List UInt8->List UInt8}(hE:∀x,x.length=16->(E x).length=16){n:Nat}(hn:0<n){x:List UInt8 × List UInt8}(hx:InForm n x):∀s,InForm n (wSteps E n x s)
 | 0=>hx
 | s+1=>wStep_form hE hn (A0o hE hn hx s) s
theorem uSteps_form{D:List UInt8->List UInt8}(hD:∀x,x.length=16->(D x).length=16){n:Nat}(hn:0<n):∀(s:Nat){x:List UInt8 × List UInt8},InForm n x->InForm n (uSteps D n x s)
 | 0,_,hx=>hx
 | s+1,_,hx=>uSteps_form hD hn s (uStep_form hD hn hx s)
theorem A2m{E D:List UInt8->List UInt8}(hE:∀x,x.length=16->(E x).length=16)(hDE:∀x,x.length=16->D (E x)=x){n:Nat}(hn:0<n){x:List UInt8 × List UInt8}(hx:InForm n x):∀s,uSteps D n (wSteps E n x s) s=x
 | 0=>rfl
 | s+1=>by
  show uSteps D n (uStep D n (wStep E n (wSteps E n x s) s) s) s=x
  rw[u_of_w hE hDE hn (A0o hE hn hx s),A2m hE hDE hn hx s]
theorem wSteps_zero(E:List UInt8->List UInt8)(n:Nat)(x:List UInt8 × List UInt8):wSteps E n x 0=x:=rfl
theorem wSteps_succ(E:List UInt8->List UInt8)(n:Nat)(x:List UInt8 × List UInt8)(s:Nat):wSteps E n x (s+1)=wStep E n (wSteps E n x s) s:=rfl
theorem uSteps_zero(D:List UInt8->List UInt8)(n:Nat)(x:List UInt8 × List UInt8):uSteps D n x 0=x:=rfl
theorem uSteps_succ(D:List UInt8->List UInt8)(n:Nat)(x:List UInt8 × List UInt8)(s:Nat):uSteps D n x (s+1)=uSteps D n (uStep D n x s) s:=rfl
theorem wStep_of{E:List UInt8->List UInt8}{n:Nat}{a l k:List UInt8}{s:Nat}(h:E (a++wordAt l (s % n))=k):wStep E n (a,l) s=(xorL (k.take 8) (beB (s+1) 8),putW l (k.drop 8) (s % n)):=by unfold wStep;rw[h]
theorem uStep_of{D:List UInt8->List UInt8}{n:Nat}{a l k:List UInt8}{s:Nat}(h:D (xorL a (beB (s+1) 8)++wordAt l (s % n))=k):uStep D n (a,l) s=(k.take 8,putW l (k.drop 8) (s % n)):=by unfold uStep;rw[h]
attribute [irreducible] putW wordAt wStep uStep wSteps uSteps
end
section
def a6L:List UInt8:=[0xa6,0xa6,0xa6,0xa6,0xa6,0xa6,0xa6,0xa6]
def wrapX(key l:List UInt8):List UInt8 × List UInt8:=wSteps (sealV key) (l.length / 8) (a6L,l) (6*(l.length / 8))
def wrapV(key l:List UInt8):List UInt8:=(wrapX key l).1++(wrapX key l).2
def unwrapX(key l:List UInt8):List UInt8 × List UInt8:=uSteps (openV key) (l.length / 8 - 1) (l.take 8,l.drop 8) (6*(l.length / 8 - 1))
theorem A1K{key:List UInt8}(h:key.length=32\/key.length=32):∀x,x.length=16->(sealV key x).length=16:=fun _ hx=>sealV_len h hx
theorem open_len'{key:List UInt8}(h:key.length=32\/key.length=32):∀x,x.length=16->(openV key x).length=16:=fun _ hx=>openV_len h hx
theorem open_seal'{key:List UInt8}(h:key.length=32\/key.length=32):∀x,x.length=16->openV key (sealV key x)=x:=fun _ hx=>dec_enc_all (A2B h) hx
theorem wrapX_form{key l:List UInt8}(h:key.length=32\/key.length=32)(h8:l.length % 8=0)(hl:0<l.length):InForm (l.length / 8) (wrapX key l):=A0o (A1K h) E9 (x:=(a6L,l)) ⟨rfl,by show l.length=8*(l.length / 8);omega⟩ _
theorem A0x{key l:List UInt8}(h:key.length=32\/key.length=32)(h8:l.length % 8=0)(hl:0<l.length):(wrapV key l).length=l.length+8:=by
 obtain⟨h1,h2⟩:=wrapX_form h h8 hl
 unfold wrapV
 rw[A3k,h1,h2]
 omega
theorem unwrap_wrap{key l:List UInt8}(h:key.length=32\/key.length=32)(h8:l.length % 8=0)(hl:0<l.length):unwrapX key (wrapV key l)=(a6L,l):=by
 obtain⟨h1,h2⟩:=wrapX_form h h8 hl
 have hn:(wrapV key l).length / 8 - 1=l.length / 8:=by rw[A0x h h8 hl];omega
 have ht:(wrapV key l).take 8=(wrapX key l).1:=by unfold wrapV;rw[A4q E9,A3B E9]
 have hd:(wrapV key l).drop 8=(wrapX key l).2:=by unfold wrapV;rw[A4H E9,A3M E9,A3q]
 unfold unwrapX
 rw[hn,ht,hd]
 exact A2m (A1K h) (open_seal' h) E9 (x:=(a6L,l)) ⟨rfl,by show l.length=8*(l.length / 8);omega⟩ _
theorem unwrapX_form{key l:List UInt8}(h:key.length=32\/key.length=32)(h8:l.length % 8=0)(hl:16<=l.length):InForm (l.length / 8 - 1) (unwrapX key l):=uSteps_form (open_len' h) E9 _ ⟨by simp;omega,by simp;omega⟩
attribute [irreducible] wrapX wrapV unwrapX
end
section
end
end
section
open Go.ChangeShapes Go.WideShapes Go.ChangeAt Go.RowKit
attribute [local irreducible] wpList wpListIn
section
theorem words_any(p:Option Addr)(n c:Nat)(h:n<=9223372036854775807)(w:World) :
  Calls Tryz.prog 179 #[.slice p n c] w fun e w'=>e=.returned (.int .i64 ((if n % 8=0 then n / 8 else 0:Nat):Int))/\Below w.heap.size w w':=by
 have hS:=St.start w
 go_enter Tryz.func179,Tryz.ntmps179
 repeat' (first|refine Zas ?_|(refine Zc ?_ ?_<;>intro hc)|(refine Zg ?_;go_step)|fail)
 ·go_ret
  exact⟨by rw[if_neg E9];rfl,hS.below⟩
 ·go_ret
  exact⟨by rw[if_pos E9];rfl,hS.below⟩
theorem steps_any(n:Int)(w:World):Calls Tryz.prog 180 #[.int .i64 n] w fun e w'=>e=.returned (.func (.func 237) #[] #[.pointer (some ⟨w.heap.size,0,none⟩)])/\w'=w.alloc (.cells #[.int .i64 n] 3):=by
 go_enter Tryz.func180,Tryz.ntmps180
 go_wp2
 go_ret
 exact⟨rfl,rfl⟩
def stepN(n:Int):Nat:=if 2<=n/\n<=64 then 6*n.toNat else 0
theorem stepN_pos{n:Nat}(h2:2<=n)(h64:n<=64):stepN n=6*n:=by unfold stepN;rw[if_pos E9];simp
theorem stepN_none{n:Int}(h:n<2\/64<n):stepN n=0:=by unfold stepN;rw[if_neg E9]
theorem steps1_iter(n:Int)(g:Nat)(W0:World)(hg:blk W0 g=some (.cells #[.int .i64 n] 3 (0,0))) :
  IterAt Tryz.prog 237 #[.pointer (some ⟨g,0,none⟩)] (fun k=>#[.int .i64 ((k+1:Nat):Int),.int .i64 (((k % n.toNat+1:Nat)):Int)]) (some (stepN n)) [g] W0:=by
 intro l J Jx M W L0 hbW hR hM hJ0 hH hY
 have hgW:blk W g=some (.cells #[.int .i64 n] 3 (0,0)):=(hbW.block g (G1 hg)).trans hg
 have hgn:g∉L0.map (·.1):=hR g (A4p.2 rfl)
 refine(callsIn_wide (n:=1)).1 ?_
 refine callsIn_of_wp Tryz.func237 rfl trivial ?_ rfl
 simp only[Tryz.ntmps237,A3R,A3D,A3S,Nat.reduceAdd,Nat.reduceSub,A4h,A4i,A4t,A4l,A3q,A3F]
 by_cases h2:n<2
 ·refine ZyW ?_;intro _ _ _
  refine bodyPost_ret (results_none rfl _ _ _) rfl ?_
  exact⟨⟨_,rfl⟩,L0,.refl hH,.inl ⟨0,by rw[stepN_none (.inl h2)],hJ0⟩⟩
 by_cases h3:64<n
 ·repeat' (first|refine ZaW ?_|(refine Zli ?_;((refine G3 F5 (by exact hgW) ?_)<;>refine F2 ?_))|(refine Zi ?_;first|gi_step|refine Zq ?_)|fail)
  refine bodyPost_ret (results_none rfl _ _ _) rfl ?_
  exact⟨⟨_,rfl⟩,L0,.refl hH,.inl ⟨0,by rw[stepN_none (.inr h3)],hJ0⟩⟩
 obtain⟨m,rfl⟩:∃m:Nat,n=m:=⟨n.toNat,by omega⟩
 have hN:stepN m=6*m:=stepN_pos E9 E9
 repeat' (first|refine ZaW ?_|(refine Zli ?_;((refine G3 F5 (by exact hgW) ?_)<;>refine F2 ?_))|(refine Zi ?_;first|gi_step|refine Zq ?_)|fail)
 gi_loopg [3] (6*m) (fun r u3 wr=>∃k L,r+k=6*m/\u3=.int .i64 ((k:Int)+1)/\J k L/\Rd L0 W L wr)
 case atStart=>exact⟨0,L0,by omega,rfl,hJ0,.refl hH⟩
 case round =>
  obtain⟨k,L,hk,rfl,hJ,hRd⟩:=hrel
  have hgr:blk wr g=some (.cells #[.int .i64 m] 3 (0,0)):=(hRd.far hgW hgn).1
  by_cases hlt:k<6*m
  ·have m1:0<=(k:Int) % (m:Int):=Int.emod_nonneg _ E9
   have m2:(k:Int) % (m:Int)<(m:Int):=Int.emod_lt_of_pos _ E9
   repeat' (first|refine ZaW ?_|(refine Zli ?_;((refine G3 F5 (by exact hgr) ?_)<;>refine F2 ?_))|(refine Zi ?_;gi_step)|fail)
   (refine A0N F1 F1 F1 F1 F1 (by simpa using hY k L wr hJ hRd (fun n h=>by cases h;omega)) ?_)
   rintro e W3 ⟨L2,hRd2,(⟨rfl,hJ2⟩|⟨rfl,hx⟩)⟩
   ·refine⟨_,rfl,?_⟩
    refine F2 ?_
    refine ZyW ?_;intro _
    gi_roundg (gk - 1)
    case rel=>exact⟨k+1,L2,by omega,by push_cast;rfl,hJ2,hRd.trans hRd2⟩
    case measure=>omega
   ·refine⟨_,rfl,?_⟩
    refine F2 ?_
    refine ZyW ?_;intro _
    refine bodyPost_end (results_none rfl _ _ _) rfl ?_
    exact⟨⟨_,rfl⟩,L2,hRd.trans hRd2,.inr hx⟩
  ·obtain rfl:k=6*m:=by omega
   repeat' (first|refine ZaW ?_|(refine Zli ?_;((refine G3 F5 (by exact hgr) ?_)<;>refine F2 ?_))|(refine Zi ?_;first|gi_step|refine Zq ?_)|fail)
   refine bodyPost_end (results_none rfl _ _ _) rfl ?_
   exact⟨⟨_,rfl⟩,L,hRd,.inl ⟨6*m,by rw[hN],hJ⟩⟩
end
section
attribute [local irreducible] xorL sboxL subB sealV openV
theorem drop_pre(x:List UInt8)(j:Nat):(zs 8++x).drop (8*(j+1))=x.drop (8*j):=by
 rw[A4U,A3M E1,A3q,zs_len]
 congr 1
theorem take_pre(x:List UInt8)(j:Nat):(zs 8++x).take (8*(j+1))=zs 8++x.take (8*j):=by
 rw[List.take_append,A3B E1,zs_len]
 congr 2
theorem mid_word(x:List UInt8)(j:Nat):((zs 8++x).drop (8*(j+1))).take 8=wordAt x j:=by
 rw[drop_pre];unfold wordAt;rfl
theorem ovw_pre{l m:List UInt8}{sp:List Value}{o:Nat}(h:o+m.length<=l.length):ovw (l.map bv++sp).toArray o m=((l.take o++(m++l.drop (o+m.length))).map bv++sp).toArray:=by
 unfold ovw
 have e1:((l.map bv++sp).toArray).toList=l.map bv++sp:=rfl
 rw[e1,A4q D2,A4H D2,<-A5g,<-A5a]
 simp only[A3J,A3K]
theorem ovw_word{x m:List UInt8}{sp:List Value}{j:Nat}(hm:m.length=8)(h:8*j+8<=x.length):ovw ((zs 8++x).map bv++sp).toArray (8*(j+1)) m=((zs 8++putW x m j).map bv++sp).toArray:=by
 rw[ovw_pre (by rw[A3k,zs_len];omega),take_pre,hm,show 8*(j+1)+8=8*((j+1)+1) by omega,drop_pre,A3K]
 unfold putW
 rw[show 8*(j+1)=8*j+8 by omega]
theorem pre_split(l:List UInt8)(sp:List Value)(o:Nat):(l.map bv++sp).toArray.toList=(l.take o).map bv++((l.drop o).map bv++sp):=by
 have e1:((l.map bv++sp).toArray).toList=l.map bv++sp:=rfl
 rw[e1,<-A3K,<-A3J,A3O]
theorem steps_g(n:Int)(w:World):Calls Tryz.prog 180 #[.int .i64 n] w fun e w'=>∃g,e=.returned (.func (.func 237) #[] #[.pointer (some ⟨g,0,none⟩)])/\w.heap.size<=g/\blk w' g=some (.cells #[.int .i64 n] 3 (0,0))/\Below w.heap.size w w':=by
 refine(steps_any n w).mono ?_
 rintro e w' ⟨rfl,rfl⟩
 exact⟨_,rfl,A3t _,by rw[P5,if_pos rfl],(Below.refl _ _).alloc (A3t _) _⟩
theorem wrap_x(key l:List UInt8)(h:key.length=32\/key.length=32)(n:Nat)(hn:l.length=8*n)(hn2:2<=n/\n<=64)(v tv:Value)(w:World)(hv:BytesAt w v key)(ht:BytesAt w tv l) :
  Calls Tryz.prog 121 #[v,tv] w fun e w'=>∃g c sp,e=.returned (.tuple #[.slice (some ⟨g,0,none⟩) (l.length+8) c,.nilIface])/\(l.length+8<=c/\c<=maxLen/\sp.length=c - (l.length+8))/\w.heap.size<=g/\blk w' g=some (.cells ((wrapV key l).map bv++sp).toArray 5 (0,0))/\Below w.heap.size w w':=by
 obtain⟨tp,tc,rfl,htc⟩:=ht.slice
 have hS:=St.start w
 refine S5 Tryz.func121 rfl ?_
 simp only[Tryz.ntmps121,A3R,A3D,A3S,Nat.reduceAdd,Nat.reduceSub,A4h,A4i,A4t,A4l,A3q,A3F]
 refine Zds ?_;intro _ _ _
 refine F7 stp_list F1 F1 F1 F1 F1 E5 (rounds_good key h v _ hv) ?_
 rintro e w1 ⟨rp,rc,rfl,hR,hB⟩
 refine⟨_,rfl,?_⟩
 refine F2 ?_
 clear hS
 have ht1:=ht.below hB
 have hS:=St.start w1
 refine Zds ?_;clear hS;intro b w w hS _ _
 (refine g_calls hS (words_any tp l.length tc E9 _) ?_;clear hS;intro w hS)
 rw[if_pos (show l.length % 8=0 by omega),show l.length / 8=n by omega]
 repeat' (first|refine Zas ?_|(refine Zks ?_;clear hS;intro b w hS)|(refine Zg ?_;go_step)|fail)
 have hl0:l≠[]:=by rintro rfl;simp at hn;omega
 have hz0:zs 8≠[]:=by intro e;have:=zs_len 8;rw[e] at this;simp at this
 refine F7 stp_list F1 F1 F1 F1 F1 E5 (concat_x _ _ (zs 8) l hz0 hl0 E1 _ _ _ (I4 (hS.blk 1 rfl) (zs_len 8)) (ht1.below hS.below) (hS.blk 0 rfl)) ?_
 rintro e w2 ⟨go,co,spo,rfl,⟨ho1,hcm,hsl⟩,ho2,ho3,ho4⟩
 refine⟨_,rfl,?_⟩
 refine F2 ?_
 replace hS:=own_st.new hS ho4 ho2 ho3
 have HN:=hid hn
 rw[zs_len,hn,show 8+8*n=8*n+8 by omega] at ho1 |-
 rw[hn] at hS
 repeat' (first|refine Zas ?_|(refine Zks ?_;clear hS;intro b w hS)|(refine Zts ?_;clear hS;intro w hS)|(refine Zg ?_;go_step)|fail)
 refine F7 stp_list F1 F1 F1 F1 F1 E5 (steps_g n _) ?_
 rintro e w3 ⟨gs,rfl,hs1,hs2,hs3⟩
 refine⟨_,rfl,?_⟩
 refine F2 ?_
 replace hS:=own_st.new hS hs3 hs1 hs2
 repeat' (first|(refine Zg ?_;go_step)|fail)
 rename_i bR x1 x2 x3 bZ x4 bL x5 bO x6 x7 x8 KK hKK
 obtain⟨bA,hbA⟩:∃x,x=b:=⟨_,rfl⟩
 rw[<-hbA] at hS |-
 clear hbA
 have hX0:beN a6L=12008468691120727718:=by decide +kernel
 obtain⟨X,hX⟩:∃X:Nat->List UInt8 × List UInt8,X=fun k=>wSteps (sealV key) n (a6L,l) k:=⟨_,rfl⟩
 have hXz:X 0=(a6L,l):=by rw[hX];exact wSteps_zero _ _ _
 have hXs:∀k,X (k+1)=wStep (sealV key) n (X k) k:=fun k=>by rw[hX];exact wSteps_succ _ _ _ _
 have hXf:∀k,InForm n (X k):=fun k=>by rw[hX];exact A0o (A1K h) E9 (x:=(a6L,l)) ⟨rfl,HN.out⟩ k
 have hXe:wrapV key l=(X (6*n)).1++(X (6*n)).2:=by rw[hX];unfold wrapV wrapX;rw[show l.length / 8=n by have:=HN.out;omega]
 have hit:=steps1_iter n gs w3 (hS.blk 0 rfl)
 simp only[A3U] at hit
 rw[stepN_pos hn2.1 hn2.2] at hit
 have hSL:=((own_st.drop hS).erase 3).erase 3
 refine V8 (els:=fun k=>#[.int .i64 ((k+1:Nat):Int),.int .i64 (((k % n+1:Nat)):Int)]) (N:=some (6*n)) (R:=[gs]) (gf:=237) (lb:=#[.pointer (some ⟨gs,0,none⟩)]) F1 D6 hit (Below.refl _ _) (fun _=>rfl)
  (fun k L=>k<=6*n/\L=[(bA,#[.int .u64 ((beN (X k).1:Nat):Int)],167),(bO,#[.slice (some ⟨go,0,none⟩) (8*n+8) co],23),(go,((zs 8++(X k).2).map bv++spo).toArray,5),(bR,#[.slice rp (rkeys key).length rc],277)])
  (fun _ _=>False) 0 (fun h=>by cases h) [(bA,#[.int .u64 12008468691120727718],167),(bO,#[.slice (some ⟨go,0,none⟩) (8*n+8) co],23),(go,((zs 8++l).map bv++spo).toArray,5),(bR,#[.slice rp (rkeys key).length rc],277)] ?I0 ?H0 ?R0 ?act1 ?assign ?body ?done ?stop
 case I0=>exact⟨by omega,by rw[hXz,hX0];rfl⟩
 case H0=>exact hSL.holds
 case R0 =>
  intro x hx
  obtain rfl:=A4p.1 hx
  refine⟨hS.lt 0 rfl,?_⟩
  simp only[A3X,List.map_nil,A3G,A3W,or_false,not_or]
  exact⟨hS.ne 0 1 rfl rfl E8,hS.ne 0 2 rfl rfl E8,hS.ne 0 3 rfl rfl E8,hS.ne 0 6 rfl rfl E8⟩
 case assign =>
  intro l0 k L W hI hIn K hK
  have hS:=hIn.round
  simp only[A5B,A5k,A5l,A5h,A5r,A5I,A3v,A3w,A3z]
  refine Zdi ?_;show _
  exact hK _ hS
 case body =>
  rintro l0 k L W ⟨hk,rfl⟩ hIn hN
  have hlt:=hN _ rfl
  have hSW:=hSL.range hIn
  have hS:=hIn.round
  refine Zdi ?_;clear hS;intro _ b w hS _ _
  refine K9 2 E7 E7 E7 ?_
  dsimp only[List.take,List.drop]
  iterate 2 (first|refine ZQ ?_|refine ZQi ?_)
  refine Zn own_in hS ?_
  clear hS
  intro pB w hS
  try dsimp only
  obtain⟨f1,f2⟩:=hXf k
  have hc1:ovw (bvs (zs 16)) 0 (beB (beN (X k).1) 8)=bvs ((X k).1++zs 8):=by
   rw[<-f1,beB_beN,O8,A4g,A3q,A3x,f1]
   congr 2
   unfold zs
   rw[A4o]
  refine X0 G0 own_in hS F1 F1 F1 F1 F1 E5 (S0 b 0 8 16 (bvs (zs 16)) 274 (beN (X k).1) _ (own_in.blk 0 hS rfl) (by rw[csz_zs];omega) E9 E8) E3 hc1 A9 ?_
  clear hS
  intro w hS
  refine F2 ?_
  refine Zdi ?_;intro _ _
  have hmod:k % n<n:=Nat.mod_lt _ E9
  refine K9 5 E7 E7 E7 ?_
  dsimp only[List.take,List.drop]
  iterate 5 (first|refine ZQ ?_|refine ZQi ?_)
  refine Zn own_in hS ?_
  clear hS
  intro pB w hS
  try dsimp only
  have g1:(zs 8++(X k).2).length=8*n+8:=by rw[A3k,zs_len,f2];omega
  have hsrc:BytesAt w _ ((zs 8++(X k).2).drop (8*(k % n+1))):=F8 (n:=8*n+8 - (8*((k % n+1:Nat):Int)).toNat) (c:=co - (8*((k % n+1:Nat):Int)).toNat) (off:=(8*((k % n+1:Nat):Int)).toNat) (own_in.blk 3 hS rfl) (pre_split _ _ _) (by rw[A3u,A3s,g1];omega) (by rw[A3H,g1];omega) E9
  have g2:((zs 8++(X k).2).drop (8*(k % n+1))).take 8=wordAt (X k).2 (k % n):=mid_word _ _
  have g3:=A0j (l:=(X k).2) (i:=k % n) C9
  refine Q9 (i:=0) G0 own_in hS F1 F1 F1 F1 E5 F1 hsrc (by rw[g2,g3,F3,A3k,f1,zs_len];omega) (cs2:=bvs ((X k).1++wordAt (X k).2 (k % n))) (by
   rw[g2,O8,g3,A4q E9,A3B E9,A3M (by rw[A3k,f1,zs_len];omega),A3Q]) A9 rfl ?_
  clear hS hsrc
  intro w hS
  refine F2 ?_
  have g4:((X k).1++wordAt (X k).2 (k % n)).length=16:=by rw[A3k,f1,g3]
  refine Zdi ?_;intro _ _
  (refine g_callp G0 own_in hS (hideTurn_any key _ h g4 _ _ (hR.below (hSW.range hS).below)) ?_;clear hS;intro w hS)
  obtain⟨y,hy⟩:∃y,y=sealV key ((X k).1++wordAt (X k).2 (k % n)):=⟨_,rfl⟩
  have g5:y.length=16:=by rw[hy];exact A1K h _ g4
  rw[<-hy]
  refine Zdi ?_;clear hS;intro w hS _ _
  have hbl:beN (y.take 8)<18446744073709551616:=by
   have:=beN_lt (y.take 8)
   rw[A3s,g5] at this
   exact this
  refine F7 G0 F1 F1 F1 F1 F1 E5 (A1P _ (y.take 8) _ (F8 (pre:=[]) (post:=(y.drop 8).map bv) (own_in.blk 0 hS rfl) (by show y.map bv=_;rw[A3q,<-A3J,A3O]) rfl (by rw[A3s,g5];rfl) E9) (by rw[A3s,g5];omega)) ?_
  rintro e w' ⟨rfl,rfl⟩
  refine⟨_,rfl,?_⟩
  refine F2 ?_
  have hk64:k+1<18446744073709551616:=by omega
  repeat' (first|refine Zai ?_|(refine Zti ?_;clear hS;intro w hS)|(refine Zli ?_;(refine Stp.go G0 F1 F1 (r_xor64 F1 F1 F1 E9 E9 rfl) ?_;refine F2 ?_))|(refine Zi ?_;gi_step)|fail)
  refine K9 5 E7 E7 E7 ?_
  dsimp only[List.take,List.drop]
  iterate 5 (first|refine ZQ ?_|refine ZQi ?_)
  refine Zn own_in hS ?_
  clear hS
  intro pB w hS
  try dsimp only
  have e0:(8*((k % n+1:Nat):Int)).toNat=8*(k % n+1):=by omega
  have hsrc:BytesAt w _ (y.drop 8):=F8 (pre:=(y.take 8).map bv) (post:=[]) (n:=8) (c:=8) (off:=8) (own_in.blk 0 hS rfl) (by show y.map bv=_;rw[A3Q,<-A3J,A3O]) (by rw[A3u,A3s,g5];rfl) (by rw[A3H,g5]) E9
  have g6:(y.drop 8).length=8:=by rw[A3H,g5]
  have g7:(y.drop 8).take (8*n+8 - (8*((k % n+1:Nat):Int)).toNat)=y.drop 8:=A3B E9
  refine Q9 (i:=3) G0 own_in hS F1 F1 F1 F1 E5 F1 hsrc (by rw[g7,g6,e0,O6,A3k,A3u,g1];omega) (cs2:=((zs 8++putW (X k).2 (y.drop 8) (k % n)).map bv++spo).toArray) (by
   rw[g7,e0];exact ovw_word g6 C9) A9 rfl ?_
  clear hS hsrc
  intro w hS
  refine F2 ?_
  refine Zdi ?_;show _
  refine⟨_,own_in.drop hS,by omega,?_⟩
  have hstep:X (k+1)=(xorL (y.take 8) (beB (k+1) 8),putW (X k).2 (y.drop 8) (k % n)):=by rw[hXs];exact wStep_of hy.symm
  have hxe:beN (xorL (y.take 8) (beB (k+1) 8))=beN (y.take 8) ^^^ (k+1):=by
   rw[beN_xor 8 _ _ (by rw[A3s,g5];rfl) (H6 _ _),beN_beB,A5A E9]
  rw[hstep,hxe]
 case done =>
  rintro D m L W hm ⟨hk,rfl⟩ hIn hD hD0
  obtain rfl:6*n=m:=Option.some.inj hm
  have hS:StD w1 D W _:=⟨hSL.range hIn,hD⟩
  have hDw:w1.heap.size<=D:=A3T hSL.below.size hD0
  clear hit hIn
  repeat' (first|(refine Zg ?_;go_step)|fail)
  refine F6 3 E7 E7 ?_
  dsimp only[List.take,List.drop]
  iterate 3 (first|refine ZQ ?_|refine ZQD ?_)
  refine Zn own_stD hS ?_
  clear hS
  intro pB w hS
  try dsimp only
  obtain⟨f1,f2⟩:=hXf (6*n)
  have hfin:ovw ((zs 8++(X (6*n)).2).map bv++spo).toArray 0 (beB (beN (X (6*n)).1) 8)=((wrapV key l).map bv++spo).toArray:=by
   rw[<-f1,beB_beN,hXe,ovw_pre (by rw[A3k,zs_len,f1];omega),A4g,A3q,A3x,f1,A4U,A3M E1,zs_len,A3q]
   rfl
  refine X0 stp_list own_stD hS F1 F1 F1 F1 F1 E5 (S0 go 0 8 _ _ 5 (beN (X (6*n)).1) _ (own_stD.blk 2 hS rfl) (by rw[O6,A3k,A3u,A3k,zs_len];omega) E9 hcm) (by exact at_ 2 rfl) hfin A9 ?_
  clear hS
  intro w hS
  refine F2 ?_
  refine ZdD ?_;show _
  refine postM (.inl rfl) rfl hS.2 ?_
  have hS2:=hS.shut hDw
  go_ret2
  exact⟨go,co,spo,by rw[hn];rfl,⟨by omega,hcm,by rw[zs_len] at hsl;omega⟩,A3T hB.size (hS2.2.1 _ (A3l _ (A3l _ (A3m ..)))).1,hS2.blk 2 rfl,hB.trans (hS2.below.mono hB.size)⟩
 case stop=>rintro D c L W hf;exact hf.elim
theorem wrap_good(key l:List UInt8)(h:key.length=32\/key.length=32)(n:Nat)(hn:l.length=8*n)(hn2:2<=n/\n<=64)(v tv:Value)(w:World)(hv:BytesAt w v key)(ht:BytesAt w tv l) :
  Calls Tryz.prog 121 #[v,tv] w fun e w'=>∃g c sp,e=.returned (.tuple #[.slice (some ⟨g,0,none⟩) (l.length+8) c,.nilIface])/\l.length+8<=c/\w.heap.size<=g/\blk w' g=some (.cells ((wrapV key l).map bv++sp).toArray 5 (0,0))/\Below w.heap.size w w':=by
 refine(wrap_x key l h n hn hn2 v tv w hv ht).mono ?_
 rintro e w' ⟨g,c,sp,rfl,⟨h1,_,_⟩,h2,h3,h4⟩
 exact⟨g,c,sp,rfl,h1,h2,h3,h4⟩
end
section
attribute [local irreducible] xorL sboxL subB sealV openV
end
end
end Go.Proofs.YtlfbfbbdpcihfaaGreat
