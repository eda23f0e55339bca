/-
  Laws that the claims of this seat use, of several texts in one. No condition of their own.
-/
import Derived.Test.YtggbbafanhceaaaGreatRRJ32
set_option maxRecDepth 100000
set_option maxHeartbeats 8000000
set_option linter.all false
namespace Go.Proofs.YtggbbafanhceaaaGreatRR
section
open Go.ChangeShapes Go.WideShapes Go.ChangeAt Go.RowKit
attribute [local irreducible] wpList wpListIn Oper.quietAt wpM
section
variable{rd:Rdr}{w00 w0:World}{g:G4}{N:Nat}{su:List UInt8}{l:List Pt}{co:List Int}{L:List Blk}
theorem pwrite_on(hrd:RdCel rd)(hD:Dk rd w00 g Fon N su l co w0 L)(cn bs:Int)(hbs:0≤bs∧bs≤2048)(ps:List Pt)(pv:Value)(hps:PutsM L pv ps)(hin:∀x∈ps,0≤x.1∧bs+x.1<(N:Int))(hlen:l.length+ps.length<100000) :
  Calls Tryz.prog 67 #[.agg #[.pointer (some ⟨g.P,0,none⟩),.int .i64 cn,.int .i64 bs],pv] w0 fun e w'=>e=.returned .nilIface∧Dk rd w00 g Fon N su (l++shiftP bs ps) co w' L:=by
 obtain⟨ho,hpv⟩:=hps
 have hNN:=hD.ok.1
 obtain⟨n,hn⟩:∃n,ps.length=n:=⟨_,rfl⟩
 obtain⟨p,c,rfl,hp⟩:∃p c,pv=.slice p n c∧(0<n→∃(b o:Nat)(cs:Array Value)(ty:TypeId),p=some ⟨b,o,none⟩∧(b,cs,ty)∈L∧∀j x,(putsC ps)[j]?=some x→cs[o+j]?=some x):=by
  rcases hpv with⟨rfl,rfl⟩|⟨b,o,c,cs,ty,rfl,h2,h3,h4⟩
  ·subst hn;exact⟨none,0,rfl,fun h=>by simp at h⟩
  ·subst hn;exact⟨_,_,rfl,fun _=>⟨b,o,cs,ty,rfl,h3,h4⟩⟩
 rw[hn] at hlen
 have hS:=hD
 have h100:n<100000:=by omega
 go_enter Tryz.func67,Tryz.ntmps67
 repeat' (first|refine ZaKm ?_|(refine ZkK ?_;clear hS;intro b w hS)|(refine ZtKm ?_;clear hS;intro w hS)|(refine Zc ?_ ?_<;>intro hc)|(refine Zg ?_;first|go_step|go_step3|refine Zr ?_)|fail)
 go_loopw [10] (fun u10 wr=>∃k:Nat,k≤n∧u10=.int .i64 (k:Int)∧Dk rd w00 g Fon N su (l++shiftP bs (ps.take k)) co wr ((b,#[.pointer (some ⟨g.P,0,none⟩),.int .i64 cn,.int .i64 bs],75)::L)) (fun u10 _=>n - (intOf u10).toNat)
 case atStart=>exact⟨0,by omega,rfl,by rw[A5a,show shiftP bs []=[] from rfl,A4U];exact hS⟩
 case round =>
  clear hS hD
  obtain⟨k,hk,rfl,hS⟩:=hrel
  by_cases hlt:k<n
  ·obtain⟨⟨a,C⟩,hx⟩:∃x,ps[k]?=some x:=⟨_,A4C H9⟩
   obtain⟨b0,o0,cs,ty,rfl,hb,hcc⟩:=hp H9
   obtain⟨lC,d1,d2,d3,d4⟩:=put_cells ho hcc hx
   have hxr:=hin _ (A5c hx)
   obtain⟨hx1,hx2⟩:=hxr
   dsimp only at hx1 hx2
   have s1:csz (hdV a C)=129:=by rw[L3,lC]
   have sZ:csz (hdV 0 (zs 128))=129:=by rw[L3,zs_len]
   have hcut:cut (hdV a C) 1 128=bvs C:=by
    have:=hd_cut a (B:=C) (o:=0) (m:=128) H9
    rwa [A5V,A4E H9] at this
   have htk:l++shiftP bs (ps.take (k+1))=l++shiftP bs (ps.take k)++[(bs+a,C)]:=by
    rw[A6g,hx]
    unfold shiftP
    rw[A4Q,A4H];rfl
   have hll:(l++shiftP bs (ps.take k)).length<100000:=by rw[A4s,shiftP_len,A4x];omega
   repeat' (first|((with_reducible refine cons_list ?_);first|(refine K0 I3 own_dk hS ?_ (hv:=O5 _ _);clear hS;intro w hS;refine I4 ?_))|refine ZbKm ?_|((with_reducible refine cons_list ?_);first|((first|refine J6 I3 own_dk hS ?_ (hv:=by rw[A4r];first|exact d2|exact hcut)|refine J0 I3 C3 ?_ (hv:=by first|rfl|exact bvs_getLA|(rw[A4r];first|exact d2|exact hcut))|refine J5 I3 own_dk hS ?_ (hv:=by first|(first|exact d2|exact hcut)|rfl)|refine I9 I3 C3 ?_ (hv:=by first|exact J1 _ _ A8|(first|exact d2|exact hcut)|rfl)|refine J4 I3 ?_ (hv':=by first|exact bvs_getLA|(rw[A4r];first|exact d2|exact hcut)))<;>refine I4 ?_))|(refine ZkK ?_;clear hS;intro b w hS)|(refine ZtKm ?_;clear hS;intro w hS)|(refine Zc ?_ ?_<;>intro hc)|(refine Zg ?_;first|go_step|go_step3|refine Zr ?_)|fail)
   refine J3 I3 I2 I2 I2 I2 I2 G7 (write_on hrd hS (bs+a) C ⟨by omega,hx2⟩ lC hll) ?_
   clear hS
   rintro e w3 ⟨rfl,hS⟩
   refine⟨_,rfl,?_⟩
   rw[←htk] at hS
   refine I4 ?_
   repeat' (first|refine ZaKm ?_|(refine ZkK ?_;clear hS;intro b w hS)|(refine ZtKm ?_;clear hS;intro w hS)|(refine Zc ?_ ?_<;>intro hc)|(refine Zg ?_;first|go_step|go_step3|refine Zr ?_)|fail)
   go_roundw
   case rel=>exact⟨k+1,by omega,by push_cast;rfl,own_dk.drop hS⟩
   case measure=>first|(simp[intOf];done)|(simp[intOf];omega)
  ·obtain rfl:k=n:=by omega
   rw[A4E H9] at hS
   repeat' (first|refine ZaKm ?_|(refine ZkK ?_;clear hS;intro b w hS)|(refine ZtKm ?_;clear hS;intro w hS)|(refine Zc ?_ ?_<;>intro hc)|(refine Zg ?_;first|go_step|go_step3|refine Zr ?_)|fail)
   go_ret
   exact⟨rfl,own_dk.drop hS⟩
theorem Dk.blkP{F:Bool→Int→Bool→Prop}{w:World}(h:Dk rd w00 g F N su l co w L):∃ar lf dn st,blk w g.P=some (.cells (pC ar lf dn st g.S g.C g.B N co.length) 109 (0,0))∧blk w g.C=some (.cells (vints co) 3 (0,0)):=by
 obtain⟨ar,lf,dn,st,D,_,_,_,_,_,hS⟩:=h
 exact⟨ar,lf,dn,st,MP.own_stM.blk 0 hS rfl,MP.own_stM.blk 2 hS rfl⟩
theorem Dk.start{F:Bool→Int→Bool→Prop}{w w':World}(h:Dk rd w00 g F N su l co w L)(hb:Below w.heap.size w w'):Dk rd w00 g F N su l co w' L:=own_dk.call h hb
theorem A3W(hrd:RdCel rd)(hD:Dk rd w00 g Fon N su [] co w0 L)(cn bs:Int)(hbs:0≤bs∧bs≤2048)(za n:Nat)(hn:bs+za+n≤(N:Int))(hz:za≤2048∧n≤2048) :
  Calls Tryz.prog 73 #[.agg #[.pointer (some ⟨g.P,0,none⟩),.int .i64 cn,.int .i64 bs],.int .i64 (za:Int),.int .i64 (n:Int)] w0 fun e w'=>∃gx,e=.returned (.tuple #[.slice (some ⟨gx,0,none⟩) n n,.nilIface])∧w0.heap.size≤gx∧blk w' gx=some (.cells (bvs (sl su (128*(bs.toNat+za)) (128*n))) 39 (0,0))∧Below w0.heap.size w0 w':=by
 have hok:=hD.ok
 have hsu:=hok.2.1
 have hNN:=hok.1
 have hS:=St.start w0
 have hmz:madeCells (bvs (zs 128)) (n*128)=bvs (zs (128*n)):=by rw[made_cels,A6n]
 obtain⟨q1,q2⟩:=hz
 obtain⟨X,hX⟩:∃X,sl su (128*(bs.toNat+za)) (128*n)=X:=⟨_,rfl⟩
 have lX:X.length=128*n:=by rw[←hX];exact sl_len H9
 have hcX:∀k,k<n→celX su (bs.toNat+za+k)=celX X k:=fun k hk=>by
  rw[←hX,Q5,Q5,Z0 H9]
  congr 1;omega
 rw[hX]
 clear hX
 go_enter Tryz.func73,Tryz.ntmps73
 repeat' (first|((with_reducible refine cons_list ?_);first|(refine S7 (n:=n) I3 own_st hS I2 I2 I2 I2 G7 G7 hmz H9 H9 ?_;clear hS;intro gx w hS;refine I4 ?_))|refine Zasm ?_|(refine Zks ?_;clear hS;intro b w hS)|(refine Ztsm ?_;clear hS;intro w hS)|(refine Zc ?_ ?_<;>intro hc)|(refine Zg ?_;first|go_step|go_step3|refine Zr ?_)|fail)
 have hnx:∀k,k<n→paste (bvs (X.take (128*k)++zs (128*(n - k)))) (k*128) (bvs (celX X k))=bvs (X.take (128*(k+1))++zs (128*(n - (k+1)))):=fun k hk=>by
  have lk:(X.take (128*k)).length=128*k:=by rw[A4x];omega
  have lc:=celX_len lX hk
  rw[paste_owL (by rw[A4s,lk,zs_len,lc];omega)]
  unfold owL
  rw[lc,A5n H9,A5S,A4I H9,A4A,lk,celX_next,A4H]
  congr 3
  unfold zs
  rw[A5B]
  congr 1;omega
 have sO:∀k,k≤n→csz (bvs (X.take (128*k)++zs (128*(n - k))))=128*n:=fun k hk=>by rw[I5,A4s,A4x,zs_len];omega
 go_loopw [16] (fun u16 wr=>∃k:Nat,k≤n∧u16=.int .i64 (k:Int)∧St w0 wr [(gx,bvs (X.take (128*k)++zs (128*(n - k))),39),(b,#[.pointer (some ⟨g.P,0,none⟩),.int .i64 cn,.int .i64 bs],75)]) (fun u16 _=>n - (intOf u16).toNat)
 case atStart=>exact⟨0,by omega,rfl,by rw[A6K,A5a,A4A,A5H];exact hS⟩
 case round =>
  clear hS
  obtain⟨k,hk,rfl,hS⟩:=hrel
  by_cases hlt:k<n
  ·have hrdc:=fun w (hw:Dk rd w00 g Fon N su [] co w L)=>read_on (w0:=w) hrd hw (bs+za+k) ⟨by omega,by omega⟩
   rw[show (bs+(za:Int)+(k:Int)).toNat=bs.toNat+za+k by omega,hcX k hlt] at hrdc
   have lc:=celX_len lX hlt
   have hps:=hnx k hlt
   have sOk:=sO k hk
   obtain⟨C,hC⟩:∃C,celX X k=C:=⟨_,rfl⟩
   rw[hC] at hrdc lc hps
   have sC:csz (bvs C)=128:=by rw[I5,lc]
   have sZ:csz (bvs (zs 128))=128:=by rw[I5,zs_len]
   repeat' (first|((with_reducible refine cons_list ?_);first|(refine J2 I3 own_st hS (hrdc _ (hD.start hS.below)) ?_;clear hS;intro w hS;refine I4 ?_))|refine Zasm ?_|(refine Zks ?_;clear hS;intro b w hS)|(refine Ztsm ?_;clear hS;intro w hS)|(refine Zc ?_ ?_<;>intro hc)|(refine Zg ?_;first|go_step|go_step3|refine Zr ?_)|fail)
   rw[hps] at hS
   go_roundw
   case rel=>exact⟨k+1,by omega,by push_cast;rfl,hS.erase 0⟩
   case measure=>first|(simp[intOf];done)|(simp[intOf];omega)
  ·obtain rfl:k=n:=by omega
   rw[show X.take (128*k)++zs (128*(k - k))=X by rw[A4E H9,A6I];simp[zs]] at hS
   repeat' (first|refine Zasm ?_|(refine Zks ?_;clear hS;intro b w hS)|(refine Ztsm ?_;clear hS;intro w hS)|(refine Zc ?_ ?_<;>intro hc)|(refine Zg ?_;first|go_step|go_step3|refine Zr ?_)|fail)
   go_ret2
   exact⟨gx,rfl,hS.low 0 rfl,hS.blk 0 rfl,hS.below⟩
def fitsP(N:Nat)(co:List Int)(cn bs:Int):Bool:=decide (0≤cn∧cn<(co.length:Int)) && decide (0≤bs) && decide (117≤(N:Int) - bs)
theorem fits_any{F:Bool→Int→Bool→Prop}(hD:Dk rd w00 g F N su l co w0 L)(cn bs:Int)(hbr:i64R bs)(q:Bool)(hq:fitsP N co cn bs=q) :
  Calls Tryz.prog 40 #[.agg #[.pointer (some ⟨g.P,0,none⟩),.int .i64 cn,.int .i64 bs]] w0 fun e w'=>e=.returned (.bool q)∧Below w0.heap.size w0 w':=by
 have hok:=hD.ok
 have hNN:=hok.1
 obtain⟨ar,lf,dn,st,hP,hC⟩:=hD.blkP
 have hS:=St.start w0
 have hct:=fun w h1 h2=>A1l (w0:=w) (p:=g.P) (ar:=ar) (dn:=dn) (lf:=lf) (st:=st) (S:=g.S) (C:=g.C) (B:=g.B) (N:=N) (fr:=(0,0)) (ty:=109) (ty2:=3) hok.2.2.2.1.2 cn h1 h2
 have hsz:=fun w h=>size_any (w0:=w) (p:=g.P) (ar:=ar) (dn:=dn) (lf:=lf) (st:=st) (S:=g.S) (C:=g.C) (B:=g.B) (K:=co.length) (N:=N) (fr:=(0,0)) (ty:=109) hNN.2 h
 unfold i64R at hbr
 by_cases h1:0≤cn∧cn<(co.length:Int)
 ·have e1:cntV co cn=.tuple #[.int .i64 (co.getD cn.toNat 0),.nilIface]:=if_pos h1
  rw[e1] at hct
  obtain⟨x,hx⟩:∃x,co.getD cn.toNat 0=x:=⟨_,rfl⟩
  rw[hx] at hct
  by_cases h2:0≤bs
  ·by_cases h3:(117:Int)≤(N:Int) - bs
   ·obtain rfl:q=true:=by rw[←hq];unfold fitsP;simp[h1,h2,h3]
    go_enter Tryz.func40,Tryz.ntmps40
    repeat' (first|refine Zasm ?_|(refine Zks ?_;clear hS;intro b w hS)|(refine Ztsm ?_;clear hS;intro w hS)|(refine Zc ?_ ?_<;>intro hc)|((with_reducible refine cons_list ?_);first|(refine J2 I3 own_st hS (hct _ (hS.far hP).1 (hS.far hC).1) ?_;clear hS;intro w hS;refine I4 ?_))|(refine Zg ?_;first|go_step|go_step3|refine Zr ?_)|fail)
    refine I8 16 H6 H6 ?_
    dsimp only[List.take,List.drop]
    iterate 16 (first|(refine Zw ?_;apply Exists.intro;refine⟨fun pB w' hw' hF=>?_,?_⟩;(focus (have hZ:=(own_st).call hS hw';first|exact(L5 (hsz _ (hZ.far hP).1))));refine Zo ?_)|refine ZQm ?_|refine ZQs ?_|refine ZQa ?_|refine ZQz ?_)
    refine Zn own_st hS ?_
    clear hS
    intro pB w hS
    try dsimp only
    repeat' (first|refine Zasm ?_|(refine Zks ?_;clear hS;intro b w hS)|(refine Ztsm ?_;clear hS;intro w hS)|(refine Zc ?_ ?_<;>intro hc)|(refine Zg ?_;first|go_step|go_step3|refine Zr ?_)|fail)
    go_ret
    exact⟨rfl,hS.below⟩
   ·obtain rfl:q=false:=by rw[←hq];unfold fitsP;simp[h3]
    go_enter Tryz.func40,Tryz.ntmps40
    repeat' (first|refine Zasm ?_|(refine Zks ?_;clear hS;intro b w hS)|(refine Ztsm ?_;clear hS;intro w hS)|(refine Zc ?_ ?_<;>intro hc)|((with_reducible refine cons_list ?_);first|(refine J2 I3 own_st hS (hct _ (hS.far hP).1 (hS.far hC).1) ?_;clear hS;intro w hS;refine I4 ?_))|(refine Zg ?_;first|go_step|go_step3|refine Zr ?_)|fail)
    refine I8 16 H6 H6 ?_
    dsimp only[List.take,List.drop]
    iterate 16 (first|(refine Zw ?_;apply Exists.intro;refine⟨fun pB w' hw' hF=>?_,?_⟩;(focus (have hZ:=(own_st).call hS hw';first|exact(L5 (hsz _ (hZ.far hP).1))));refine Zo ?_)|refine ZQm ?_|refine ZQs ?_|refine ZQa ?_|refine ZQz ?_)
    refine Zn own_st hS ?_
    clear hS
    intro pB w hS
    try dsimp only
    repeat' (first|refine Zasm ?_|(refine Zks ?_;clear hS;intro b w hS)|(refine Ztsm ?_;clear hS;intro w hS)|(refine Zc ?_ ?_<;>intro hc)|(refine Zg ?_;first|go_step|go_step3|refine Zr ?_)|fail)
    go_ret
    exact⟨rfl,hS.below⟩
  ·obtain rfl:q=false:=by rw[←hq];unfold fitsP;simp[h2]
   go_enter Tryz.func40,Tryz.ntmps40
   repeat' (first|refine Zasm ?_|(refine Zks ?_;clear hS;intro b w hS)|(refine Ztsm ?_;clear hS;intro w hS)|(refine Zc ?_ ?_<;>intro hc)|((with_reducible refine cons_list ?_);first|(refine J2 I3 own_st hS (hct _ (hS.far hP).1 (hS.far hC).1) ?_;clear hS;intro w hS;refine I4 ?_))|(refine Zg ?_;first|go_step|go_step3|refine Zr ?_)|fail)
   refine I8 16 H6 H6 ?_
   dsimp only[List.take,List.drop]
   iterate 16 (first|(refine Zw ?_;apply Exists.intro;refine⟨fun pB w' hw' hF=>?_,?_⟩;(focus (have hZ:=(own_st).call hS hw';first|exact(L5 (hsz _ (hZ.far hP).1))));refine Zo ?_)|refine ZQm ?_|refine ZQs ?_|refine ZQa ?_|refine ZQz ?_)
   refine Zn own_st hS ?_
   clear hS
   intro pB w hS
   try dsimp only
   repeat' (first|refine Zasm ?_|(refine Zks ?_;clear hS;intro b w hS)|(refine Ztsm ?_;clear hS;intro w hS)|(refine Zc ?_ ?_<;>intro hc)|(refine Zg ?_;first|go_step|go_step3|refine Zr ?_)|fail)
   go_ret
   exact⟨rfl,hS.below⟩
 ·have e1:cntV co cn=.tuple #[.int .i64 0,.iface 54 (.int .i64 1)]:=if_neg h1
  rw[e1] at hct
  obtain rfl:q=false:=by
   rw[←hq];unfold fitsP;rw[decide_eq_false h1];simp
  go_enter Tryz.func40,Tryz.ntmps40
  repeat' (first|refine Zasm ?_|(refine Zks ?_;clear hS;intro b w hS)|(refine Ztsm ?_;clear hS;intro w hS)|(refine Zc ?_ ?_<;>intro hc)|((with_reducible refine cons_list ?_);first|(refine J2 I3 own_st hS (hct _ (hS.far hP).1 (hS.far hC).1) ?_;clear hS;intro w hS;refine I4 ?_))|(refine Zg ?_;first|go_step|go_step3|refine Zr ?_)|fail)
  refine I8 16 H6 H6 ?_
  dsimp only[List.take,List.drop]
  iterate 16 (first|(refine Zw ?_;apply Exists.intro;refine⟨fun pB w' hw' hF=>?_,?_⟩;(focus (have hZ:=(own_st).call hS hw';first|exact(L5 (hsz _ (hZ.far hP).1))));refine Zo ?_)|refine ZQm ?_|refine ZQs ?_|refine ZQa ?_|refine ZQz ?_)
  refine Zn own_st hS ?_
  clear hS
  intro pB w hS
  try dsimp only
  repeat' (first|refine Zasm ?_|(refine Zks ?_;clear hS;intro b w hS)|(refine Ztsm ?_;clear hS;intro w hS)|(refine Zc ?_ ?_<;>intro hc)|(refine Zg ?_;first|go_step|go_step3|refine Zr ?_)|fail)
  go_ret
  exact⟨rfl,hS.below⟩
end
end
section
open Go.ChangeShapes Go.WideShapes Go.ChangeAt Go.RowKit
section
def putW(l k:List UInt8)(i:Nat):List UInt8:=l.take (8*i)++(k++l.drop (8*i+8))
def wordAt(l:List UInt8)(i:Nat):List UInt8:=(l.drop (8*i)).take 8
theorem A0P{l:List UInt8}{i:Nat}(h:8*i+8≤l.length):(wordAt l i).length=8:=by unfold wordAt;simp;omega
theorem putW_len{l k:List UInt8}{i:Nat}(h:8*i+8≤l.length)(hk:k.length=8):(putW l k i).length=l.length:=by unfold putW;simp;omega
theorem wordAt_put{l k:List UInt8}{i:Nat}(h:8*i+8≤l.length)(hk:k.length=8):wordAt (putW l k i) i=k:=by
 have h1:(l.take (8*i)).length=8*i:=by simp;omega
 unfold wordAt putW
 rw[A5o H9,A4I H9,A4A,A5b H9,A4E H9]
theorem putW_put{l k k':List UInt8}{i:Nat}(h:8*i+8≤l.length)(hk:k.length=8):putW (putW l k i) k' i=putW l k' i:=by
 have h1:(l.take (8*i)).length=8*i:=by simp;omega
 have h2:(l.take (8*i)++(k++l.drop (8*i+8))).drop (8*i+8)=l.drop (8*i+8):=by
  rw[←A4H,A5o H5,A4I H5,A4A]
 unfold putW
 rw[h2,A5b H9,A4E H9]
theorem putW_self{l:List UInt8}{i:Nat}:putW l (wordAt l i) i=l:=by
 unfold putW wordAt
 rw[←A4H,←A6N,A4O]
def wStep(E:List UInt8→List UInt8)(n:Nat)(x:List UInt8 × List UInt8)(s:Nat):List UInt8 × List UInt8 :=
 (xorL ((E (x.1++wordAt x.2 (s % n))).take 8) (beB (s+1) 8),putW x.2 ((E (x.1++wordAt x.2 (s % n))).drop 8) (s % n))
def uStep(D:List UInt8→List UInt8)(n:Nat)(x:List UInt8 × List UInt8)(s:Nat):List UInt8 × List UInt8 :=
 ((D (xorL x.1 (beB (s+1) 8)++wordAt x.2 (s % n))).take 8,putW x.2 ((D (xorL x.1 (beB (s+1) 8)++wordAt x.2 (s % n))).drop 8) (s % n))
def InForm(n:Nat)(x:List UInt8 × List UInt8):Prop:=x.1.length=8∧x.2.length=8*n
theorem word_fits{n s:Nat}(hn:0<n):8*(s % n)+8≤8*n:=by have:=Nat.mod_lt s hn;omega
theorem wStep_form{E:List UInt8→List UInt8}(hE:∀x,x.length=16→(E x).length=16){n:Nat}(hn:0<n){x:List UInt8 × List UInt8}(hx:InForm n x)(s:Nat):InForm n (wStep E n x s):=by
 have hw:=word_fits (s:=s) hn
 have h1:=A0P (l:=x.2) (i:=s % n) (by rw[hx.2];exact hw)
 have h2:=hE (x.1++wordAt x.2 (s % n)) (by rw[A4s,hx.1,h1])
 exact⟨N3 _ _ 8 (by rw[A4x,h2];rfl) (L8 _ _),by unfold wStep;rw[putW_len (by rw[hx.2];exact hw) (by rw[A4N,h2])];exact hx.2⟩
theorem uStep_form{D:List UInt8→List UInt8}(hD:∀x,x.length=16→(D x).length=16){n:Nat}(hn:0<n){x:List UInt8 × List UInt8}(hx:InForm n x)(s:Nat):InForm n (uStep D n x s):=by
 have hw:=word_fits (s:=s) hn
 have h1:=A0P (l:=x.2) (i:=s % n) (by rw[hx.2];exact hw)
 have h0:=N3 x.1 (beB (s+1) 8) 8 hx.1 (L8 _ _)
 have h2:=hD (xorL x.1 (beB (s+1) 8)++wordAt x.2 (s % n)) (by rw[A4s,h0,h1])
 exact⟨by unfold uStep;rw[A4x,h2];rfl,by unfold uStep;rw[putW_len (by rw[hx.2];exact hw) (by rw[A4N,h2])];exact hx.2⟩
theorem u_of_w{E D:List UInt8→List UInt8}(hE:∀x,x.length=16→(E x).length=16)(hDE:∀x,x.length=16→D (E x)=x){n:Nat}(hn:0<n){x:List UInt8 × List UInt8}(hx:InForm n x)(s:Nat):uStep D n (wStep E n x s) s=x:=by
 have hw:=word_fits (s:=s) hn
 have hx1:x.1.length=8:=hx.1
 have h1:=A0P (l:=x.2) (i:=s % n) (by rw[hx.2];exact hw)
 have hl:(x.1++wordAt x.2 (s % n)).length=16:=by rw[A4s,hx.1,h1]
 have h2:=hE _ hl
 have h3:=hDE _ hl
 have ht:((E (x.1++wordAt x.2 (s % n))).take 8).length=8:=by rw[A4x,h2];rfl
 have hd:((E (x.1++wordAt x.2 (s % n))).drop 8).length=8:=by rw[A4N,h2]
 unfold uStep
 have e1:(wStep E n x s).1=xorL ((E (x.1++wordAt x.2 (s % n))).take 8) (beB (s+1) 8):=rfl
 have e2:(wStep E n x s).2=putW x.2 ((E (x.1++wordAt x.2 (s % n))).drop 8) (s % n):=rfl
 rw[e1,e2,A2p (by rw[ht,L8]),wordAt_put (by rw[hx.2];exact hw) hd,A4O,h3,putW_put (by rw[hx.2];exact hw) hd,
  A5b H9,A4E H9,A5o H9,A4I H9,A4A,putW_self]
def wSteps(E:List UInt8→List UInt8)(n:Nat)(x:List UInt8 × List UInt8):Nat→List UInt8 × List UInt8
 | 0=>x
 | s+1=>wStep E n (wSteps E n x s) s
def uSteps(D:List UInt8→List UInt8)(n:Nat)(x:List UInt8 × List UInt8):Nat→List UInt8 × List UInt8
 | 0=>x
 | s+1=>uSteps D n (uStep D n x s) s
theorem A1n{E:List UInt8→List UInt8}(hE:∀x,x.length=16→(E x).length=16){n:Nat}(hn:0<n){x:List UInt8 × List UInt8}(hx:InForm n x):∀s,InForm n (wSteps E n x s)
 | 0=>hx
 | s+1=>wStep_form hE hn (A1n hE hn hx s) s
theorem uSteps_form{D:List UInt8→List UInt8}(hD:∀x,x.length=16→(D x).length=16){n:Nat}(hn:0<n):∀(s:Nat){x:List UInt8 × List UInt8},InForm n x→InForm n (uSteps D n x s)
 | 0,_,hx=>hx
 | s+1,_,hx=>uSteps_form hD hn s (uStep_form hD hn hx s)
theorem A3w{E D:List UInt8→List UInt8}(hE:∀x,x.length=16→(E x).length=16)(hDE:∀x,x.length=16→D (E x)=x){n:Nat}(hn:0<n){x:List UInt8 × List UInt8}(hx:InForm n x):∀s,uSteps D n (wSteps E n x s) s=x
 | 0=>rfl
 | s+1=>by
  show uSteps D n (uStep D n (wStep E n (wSteps E n x s) s) s) s=x
  rw[u_of_w hE hDE hn (A1n hE hn hx s),A3w hE hDE hn hx s]
theorem wSteps_zero(E:List UInt8→List UInt8)(n:Nat)(x:List UInt8 × List UInt8):wSteps E n x 0=x:=rfl
theorem wSteps_succ(E:List UInt8→List UInt8)(n:Nat)(x:List UInt8 × List UInt8)(s:Nat):wSteps E n x (s+1)=wStep E n (wSteps E n x s) s:=rfl
theorem uSteps_zero(D:List UInt8→List UInt8)(n:Nat)(x:List UInt8 × List UInt8):uSteps D n x 0=x:=rfl
theorem uSteps_succ(D:List UInt8→List UInt8)(n:Nat)(x:List UInt8 × List UInt8)(s:Nat):uSteps D n x (s+1)=uSteps D n (uStep D n x s) s:=rfl
theorem wStep_of{E:List UInt8→List UInt8}{n:Nat}{a l k:List UInt8}{s:Nat}(h:E (a++wordAt l (s % n))=k):wStep E n (a,l) s=(xorL (k.take 8) (beB (s+1) 8),putW l (k.drop 8) (s % n)):=by unfold wStep;rw[h]
theorem uStep_of{D:List UInt8→List UInt8}{n:Nat}{a l k:List UInt8}{s:Nat}(h:D (xorL a (beB (s+1) 8)++wordAt l (s % n))=k):uStep D n (a,l) s=(k.take 8,putW l (k.drop 8) (s % n)):=by unfold uStep;rw[h]
attribute [irreducible] putW wordAt wStep uStep wSteps uSteps
end
section
def a6L:List UInt8:=[0xa6,0xa6,0xa6,0xa6,0xa6,0xa6,0xa6,0xa6]
def wrapX(key l:List UInt8):List UInt8 × List UInt8:=wSteps (sealV key) (l.length / 8) (a6L,l) (6*(l.length / 8))
def wrapV(key l:List UInt8):List UInt8:=(wrapX key l).1++(wrapX key l).2
def unwrapX(key l:List UInt8):List UInt8 × List UInt8:=uSteps (openV key) (l.length / 8 - 1) (l.take 8,l.drop 8) (6*(l.length / 8 - 1))
theorem A3e{key:List UInt8}(h:key.length=16∨key.length=32):∀x,x.length=16→(sealV key x).length=16:=fun _ hx=>A0g h hx
theorem open_len'{key:List UInt8}(h:key.length=16∨key.length=32):∀x,x.length=16→(openV key x).length=16:=fun _ hx=>openV_len h hx
theorem open_seal'{key:List UInt8}(h:key.length=16∨key.length=32):∀x,x.length=16→openV key (sealV key x)=x:=fun _ hx=>dec_enc_all (A1M h) hx
theorem wrapX_form{key l:List UInt8}(h:key.length=16∨key.length=32)(h8:l.length % 8=0)(hl:0<l.length):InForm (l.length / 8) (wrapX key l):=A1n (A3e h) H9 (x:=(a6L,l)) ⟨rfl,by show l.length=8*(l.length / 8);omega⟩ _
theorem A1T{key l:List UInt8}(h:key.length=16∨key.length=32)(h8:l.length % 8=0)(hl:0<l.length):(wrapV key l).length=l.length+8:=by
 obtain⟨h1,h2⟩:=wrapX_form h h8 hl
 unfold wrapV
 rw[A4s,h1,h2]
 omega
theorem unwrap_wrap{key l:List UInt8}(h:key.length=16∨key.length=32)(h8:l.length % 8=0)(hl:0<l.length):unwrapX key (wrapV key l)=(a6L,l):=by
 obtain⟨h1,h2⟩:=wrapX_form h h8 hl
 have hn:(wrapV key l).length / 8 - 1=l.length / 8:=by rw[A1T h h8 hl];omega
 have ht:(wrapV key l).take 8=(wrapX key l).1:=by unfold wrapV;rw[A5b H9,A4E H9]
 have hd:(wrapV key l).drop 8=(wrapX key l).2:=by unfold wrapV;rw[A5o H9,A4I H9,A4A]
 unfold unwrapX
 rw[hn,ht,hd]
 exact A3w (A3e h) (open_seal' h) H9 (x:=(a6L,l)) ⟨rfl,by show l.length=8*(l.length / 8);omega⟩ _
theorem unwrapX_form{key l:List UInt8}(h:key.length=16∨key.length=32)(h8:l.length % 8=0)(hl:16≤l.length):InForm (l.length / 8 - 1) (unwrapX key l):=uSteps_form (open_len' h) H9 _ ⟨by simp;omega,by simp;omega⟩
attribute [irreducible] wrapX wrapV unwrapX
end
section
end
end
section
open Go.ChangeShapes Go.WideShapes Go.ChangeAt Go.RowKit
attribute [local irreducible] wpList wpListIn
theorem words_any(p:Option Addr)(n c:Nat)(h:n≤9223372036854775807)(w:World) :
  Calls Tryz.prog 110 #[.slice p n c] w fun e w'=>e=.returned (.int .i64 ((if n % 8=0 then n / 8 else 0:Nat):Int))∧Below w.heap.size w w':=by
 have hS:=St.start w
 go_enter Tryz.func110,Tryz.ntmps110
 repeat' (first|refine Zas ?_|(refine Zks ?_;clear hS;intro b w hS)|(refine Zts ?_;clear hS;intro w hS)|(refine Zc ?_ ?_<;>intro hc)|(refine Zg ?_;first|go_step|go_step3|refine Zr ?_)|fail)
 ·go_ret
  exact⟨by rw[if_neg H9];rfl,hS.below⟩
 ·go_ret
  exact⟨by rw[if_pos H9];rfl,hS.below⟩
theorem steps_any(n:Int)(w:World):Calls Tryz.prog 111 #[.int .i64 n] w fun e w'=>e=.returned (.func (.func 143) #[] #[.pointer (some ⟨w.heap.size,0,none⟩)])∧w'=w.alloc (.cells #[.int .i64 n] 3):=by
 go_enter Tryz.func111,Tryz.ntmps111
 go_wp2
 go_ret
 exact⟨rfl,rfl⟩
def stepN(n:Int):Nat:=if 2≤n∧n≤64 then 6*n.toNat else 0
theorem stepN_pos{n:Nat}(h2:2≤n)(h64:n≤64):stepN n=6*n:=by unfold stepN;rw[if_pos H9];simp
theorem stepN_none{n:Int}(h:n<2∨64<n):stepN n=0:=by unfold stepN;rw[if_neg H9]
theorem steps1_iter(n:Int)(g:Nat)(W0:World)(hg:blk W0 g=some (.cells #[.int .i64 n] 3 (0,0))) :
  IterAt Tryz.prog 143 #[.pointer (some ⟨g,0,none⟩)] (fun k=>#[.int .i64 ((k+1:Nat):Int),.int .i64 (((k % n.toNat+1:Nat)):Int)]) (some (stepN n)) [g] W0:=by
 intro l J Jx M W L0 hbW hR hM hJ0 hH hY
 have hgW:blk W g=some (.cells #[.int .i64 n] 3 (0,0)):=(hbW.block g (J8 hg)).trans hg
 have hgn:g∉L0.map (·.1):=hR g (A5F.2 rfl)
 refine(callsIn_wide (n:=1)).1 ?_
 refine callsIn_of_wp Tryz.func143 rfl trivial ?_ rfl
 simp only[Tryz.ntmps143,A4X,A4J,A4Z,Nat.reduceAdd,Nat.reduceSub,A5t,A5u,A5G,A5w,A4A,A4K]
 by_cases h2:n<2
 ·repeat' (first|refine ZaW ?_|((with_reducible refine cons_in ?_);first|((first|refine J0 I7 (by first|exact hgW) ?_|refine I9 I7 (by first|exact hgW) ?_)<;>refine I4 ?_))|(refine ZkW ?_;clear hS;intro b w hS)|(refine ZtW ?_;clear hS;intro w hS)|(refine Zcw ?_ ?_<;>intro hc)|(refine Zi ?_;first|gi_step|refine Zq ?_)|fail)
  refine bodyPost_ret (results_none rfl _ _ _) rfl ?_
  exact⟨⟨_,rfl⟩,L0,.refl hH,.inl ⟨0,by rw[stepN_none (.inl h2)],hJ0⟩⟩
 by_cases h3:64<n
 ·repeat' (first|refine ZaW ?_|((with_reducible refine cons_in ?_);first|((first|refine J0 I7 (by first|exact hgW) ?_|refine I9 I7 (by first|exact hgW) ?_)<;>refine I4 ?_))|(refine ZkW ?_;clear hS;intro b w hS)|(refine ZtW ?_;clear hS;intro w hS)|(refine Zcw ?_ ?_<;>intro hc)|(refine Zi ?_;first|gi_step|refine Zq ?_)|fail)
  refine bodyPost_ret (results_none rfl _ _ _) rfl ?_
  exact⟨⟨_,rfl⟩,L0,.refl hH,.inl ⟨0,by rw[stepN_none (.inr h3)],hJ0⟩⟩
 obtain⟨m,rfl⟩:∃m:Nat,n=m:=⟨n.toNat,by omega⟩
 have hN:stepN m=6*m:=stepN_pos H9 H9
 repeat' (first|refine ZaW ?_|((with_reducible refine cons_in ?_);first|((first|refine J0 I7 (by first|exact hgW) ?_|refine I9 I7 (by first|exact hgW) ?_)<;>refine I4 ?_))|(refine ZkW ?_;clear hS;intro b w hS)|(refine ZtW ?_;clear hS;intro w hS)|(refine Zcw ?_ ?_<;>intro hc)|(refine Zi ?_;first|gi_step|refine Zq ?_)|fail)
 gi_loopg [3] (6*m) (fun r u3 wr=>∃k L,r+k=6*m∧u3=.int .i64 ((k:Int)+1)∧J k L∧Rd L0 W L wr)
 case atStart=>exact⟨0,L0,by omega,rfl,hJ0,.refl hH⟩
 case round =>
  obtain⟨k,L,hk,rfl,hJ,hRd⟩:=hrel
  have hgr:blk wr g=some (.cells #[.int .i64 m] 3 (0,0)):=(hRd.far hgW hgn).1
  by_cases hlt:k<6*m
  ·have m1:0≤(k:Int) % (m:Int):=Int.emod_nonneg _ H9
   have m2:(k:Int) % (m:Int)<(m:Int):=Int.emod_lt_of_pos _ H9
   repeat' (first|refine ZaW ?_|((with_reducible refine cons_in ?_);first|((first|refine J0 I7 (by first|exact hgr) ?_|refine I9 I7 (by first|exact hgr) ?_)<;>refine I4 ?_))|(refine ZkW ?_;clear hS;intro b w hS)|(refine ZtW ?_;clear hS;intro w hS)|(refine Zcw ?_ ?_<;>intro hc)|(refine Zi ?_;first|gi_step|refine Zq ?_)|fail)
   (refine A3n I2 I2 I2 I2 I2 (by simpa using hY k L wr hJ hRd (fun n h=>by cases h;omega)) ?_)
   rintro e W3 ⟨L2,hRd2,(⟨rfl,hJ2⟩|⟨rfl,hx⟩)⟩
   ·refine⟨_,rfl,?_⟩
    refine I4 ?_
    repeat' (first|refine ZaW ?_|((with_reducible refine cons_in ?_);first|((first|refine J0 I7 (by first|exact hgr) ?_|refine I9 I7 (by first|exact hgr) ?_)<;>refine I4 ?_))|(refine ZkW ?_;clear hS;intro b w hS)|(refine ZtW ?_;clear hS;intro w hS)|(refine Zcw ?_ ?_<;>intro hc)|(refine Zi ?_;first|gi_step|refine Zq ?_)|fail)
    gi_roundg (gk - 1)
    case rel=>exact⟨k+1,L2,by omega,by push_cast;rfl,hJ2,hRd.trans hRd2⟩
    case measure=>omega
   ·refine⟨_,rfl,?_⟩
    refine I4 ?_
    repeat' (first|refine ZaW ?_|((with_reducible refine cons_in ?_);first|((first|refine J0 I7 (by first|exact hgr) ?_|refine I9 I7 (by first|exact hgr) ?_)<;>refine I4 ?_))|(refine ZkW ?_;clear hS;intro b w hS)|(refine ZtW ?_;clear hS;intro w hS)|(refine Zcw ?_ ?_<;>intro hc)|(refine Zi ?_;first|gi_step|refine Zq ?_)|fail)
    refine bodyPost_end (results_none rfl _ _ _) rfl ?_
    exact⟨⟨_,rfl⟩,L2,hRd.trans hRd2,.inr hx⟩
  ·obtain rfl:k=6*m:=by omega
   repeat' (first|refine ZaW ?_|((with_reducible refine cons_in ?_);first|((first|refine J0 I7 (by first|exact hgr) ?_|refine I9 I7 (by first|exact hgr) ?_)<;>refine I4 ?_))|(refine ZkW ?_;clear hS;intro b w hS)|(refine ZtW ?_;clear hS;intro w hS)|(refine Zcw ?_ ?_<;>intro hc)|(refine Zi ?_;first|gi_step|refine Zq ?_)|fail)
   refine bodyPost_end (results_none rfl _ _ _) rfl ?_
   exact⟨⟨_,rfl⟩,L,hRd,.inl ⟨6*m,by rw[hN],hJ⟩⟩
end
end Go.Proofs.YtggbbafanhceaaaGreatRR
