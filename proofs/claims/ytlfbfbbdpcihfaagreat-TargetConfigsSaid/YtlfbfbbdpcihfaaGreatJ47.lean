/- Laws that the claim uses. No condition of their own. -/
import Derived.Test.YtlfbfbbdpcihfaaGreatJ46
set_option maxRecDepth 100000
set_option maxHeartbeats 8000000
set_option linter.all false
namespace Go.Proofs.YtlfbfbbdpcihfaaGreat
section
open Go.ChangeShapes Go.WideShapes Go.ChangeAt Go.RowKit
attribute [local irreducible] wpList wpListIn Oper.quietAt wpM
section
theorem St.left2{w0 w:World}{A B:List Blk}(h:St w0 w (A++B)):St w0 w A:=by
 have:=h.take A.length
 rwa [List.take_left] at this
def rowL(r:List UInt8):List UInt8:=beB (u64W (r.length:Int)) 2++r
theorem fit_two{n:Nat}(h:n<=65535):2<8->0<=(n:Int)/\(n:Int) / ((256 ^ 2:Nat):Int)=0:=fun _=>⟨by omega,by simp only[Nat.reducePow];omega⟩
theorem row_any(l r:List UInt8)(v rv:Value)(hv0:l=[]->v=.slice none 0 0)(hl:l.length<=4000)(hr:0<r.length/\r.length<=4096)(w0:World)(hv:BytesAt w0 v l)(hrv:BytesAt w0 rv r) :
  Calls Tryz.prog 157 #[v,rv] w0 fun e w'=>∃sv,e=.returned (.tuple #[sv,.nilIface])/\OwnB w0.heap.size w' sv (l++rowL r)/\Below w0.heap.size w0 w':=by
 obtain⟨p1,d1,rfl,_,_,hcell⟩:=id hrv
 obtain⟨tb,ti,cs,ty,fr,rfl,_,_⟩:=hcell (by intro e;rw[e] at hr;simp at hr)
 have hS:=St.start w0
 go_enter Tryz.func157,Tryz.ntmps157
 refine Zdsm ?_;intro _ _ _
 refine F7 stp_list F1 F1 F1 F1 F1 E5 (put_any 2 (.inr (.inl rfl)) l v hv0 E9 (r.length:Int) (fit_two E9) _ (hv.below hS.below)) ?_
 rintro e w1 ⟨sv,rfl,ho,hB⟩
 obtain⟨p2,d2,rfl⟩:=ho.slice
 refine⟨_,rfl,?_⟩
 refine F2 ?_
 obtain⟨Lr,hR,hS2⟩:=ho.join hS hB
 rcases hR with⟨_,e0,_⟩|⟨g,c2,sp,e1,h1,h2,h3,rfl⟩
 ·exact absurd (congrArg List.length e0) (by rw[A3k,H6];simp)
 simp only[Value.slice.injEq,true_and] at e1
 obtain⟨rfl,rfl⟩:=e1
 replace hS:=hS2
 clear hS2 ho hB
 refine Zdsm ?_;intro _ _
 have l2:(beB (u64W (r.length:Int)) 2).length=2:=H6 _ _
 rw[A3k,l2] at h1 h3
 have hq:∀(c:Nat),c=(l++beB (u64W (r.length:Int)) 2).length->c=l.length+2:=fun c h=>by rw[h,A3k,l2]
 refine J9 stp_list own_st hS F1 F1 F1 F1 E5 E3 (olds:=(l++beB (u64W (r.length:Int)) 2).map bv) (spare:=sp) F1 D0 (by rw[A3k,l2];exact h1) (by rw[A3k,l2,A4j];exact h3) (hrv.below hS.below).srcs D0 (R9 r) (by rw[A3k,l2];unfold maxLen at h2 |-;omega) rfl ?_
 clear hS
 intro b' c' sp' w' k1 k2 k3 hS
 have ea:(l++beB (u64W (r.length:Int)) 2).map bv++r.map bv=(l++rowL r).map bv:=by unfold rowL;rw[<-A3J,A3K]
 have en:(l++beB (u64W (r.length:Int)) 2).length+r.length=(l++rowL r).length:=by rw[<-A3k];unfold rowL;rw[A3K]
 rw[ea] at hS
 rw[en] at k1 k3 |-
 refine F2 ?_
 refine Zdsm ?_;show _
 go_ret2
 exact⟨_,rfl,.inr ⟨b',c',sp',rfl,k1,k2,by rw[k3,A4j],(hS.2.1 _ (A3m ..)).1,hS.blk 0 rfl⟩,hS.below⟩
def fsz(i:Nat):Nat:=if i=1 then 4 else 1
def fvl(k n c:Int)(i:Nat):Int:=if i=0 then k else if i=1 then n else c
def fpre(k n c:Int):Nat->List UInt8
 | 0=>[]
 | i+1=>fpre k n c i++beB (u64W (fvl k n c i)) (fsz i)
def frmL(k n c:Int)(l:List UInt8):List UInt8:=fpre k n c 3++rowL l
theorem fsz_szd(i:Nat):szd (fsz i):=by unfold fsz szd;split<;>omega
theorem fpre_len(k n c:Int):∀{i:Nat},i<=3->(fpre k n c i).length<=6
 | 0,_=>by unfold fpre;simp
 | 1,_=>by simp[fpre,H6,fsz]
 | 2,_=>by simp[fpre,H6,fsz]
 | 3,_=>by simp[fpre,H6,fsz]
theorem fcut(k n c:Int):∀{i:Nat},i<3->cut #[.int .i64 1,.int .i64 k,.int .i64 4,.int .i64 n,.int .i64 1,.int .i64 c] (i*2) 2=#[.int .i64 (fsz i:Int),.int .i64 (fvl k n c i)]
 | 0,_=>rfl
 | 1,_=>rfl
 | 2,_=>rfl
theorem enc_any(k n c:Int)(hk:1<=k/\k<=8)(hn:0<=n/\n<=255)(hc:0<=c/\c<=255)(l:List UInt8)(hl:0<l.length/\l.length<=4096)(v:Value)(w0:World)(hv:BytesAt w0 v l) :
  Calls Tryz.prog 103 #[.agg #[.int .i64 k,.int .i64 n,.int .i64 c,v]] w0 fun e w'=>∃sv,e=.returned (.tuple #[sv,.nilIface])/\OwnB w0.heap.size w' sv (frmL k n c l)/\Below w0.heap.size w0 w':=by
 obtain⟨p1,d1,rfl,_⟩:=id hv.slice
 have hS:=St.start w0
 go_enter Tryz.func103,Tryz.ntmps103
 refine Zdsm ?_;clear hS;intro _ b w _ _ b w hS
 have hsz:csz #[Value.int .i64 1,.int .i64 k,.int .i64 4,.int .i64 n,.int .i64 1,.int .i64 c]=6:=rfl
 have hck:=fun i=>@fcut k n c i
 rename_i bx z3 z4 z5
 obtain⟨gl,hgl⟩:∃x,x=b:=⟨_,rfl⟩
 rw[<-hgl] at hS |-
 clear hgl
 obtain⟨LS,hLS,hS2⟩:∃x,#[Value.int .i64 1,.int .i64 k,.int .i64 4,.int .i64 n,.int .i64 1,.int .i64 c]=x/\St w0 w [(gl,x,110),(bx,#[.int .i64 k,.int .i64 n,.int .i64 c,.slice p1 l.length d1],63)]:=⟨_,rfl,hS⟩
 rw[hLS] at hck hsz
 replace hS:=hS2
 clear hS2 hLS
 have hnx:∀i,fpre k n c (i+1)=fpre k n c i++beB (u64W (fvl k n c i)) (fsz i):=fun _=>rfl
 have hpl:=fun i=>@fpre_len k n c i
 have hvl:∀i,fsz i<8->0<=fvl k n c i/\fvl k n c i / ((256 ^ fsz i:Nat):Int)=0:=fun i _=>by
  unfold fsz fvl
  split
  ·split
   ·omega
   ·rename_i h _;simp only[h,if_true,Nat.reducePow];omega
  ·split
   ·simp only[Nat.reducePow];omega
   ·simp only[Nat.reducePow];omega
 have h0:fpre k n c 0=[]:=rfl
 have hz:=fun i=>fsz_szd i
 have hfin:frmL k n c l=fpre k n c 3++rowL l:=rfl
 obtain⟨pre,hpre⟩:∃x,fpre k n c=x:=⟨_,rfl⟩
 obtain⟨vl,hvv⟩:∃x,fvl k n c=x:=⟨_,rfl⟩
 obtain⟨sz,hszz⟩:∃x,fsz=x:=⟨_,rfl⟩
 rw[hpre] at hnx hpl h0 hfin
 rw[hvv] at hnx hvl hck
 rw[hszz] at hnx hvl hz hck
 clear hpre hvv hszz
 go_loopw [4,34] (fun u4 u34 wr=>∃(i:Nat)(Lb:List Blk),i<=3/\u34=.int .i64 (i:Int)/\BL (pre i) u4 Lb/\(pre i=[]->u4=.slice none 0 0)/\St w0 wr ((gl,LS,110)::(bx,#[.int .i64 k,.int .i64 n,.int .i64 c,.slice p1 l.length d1],63)::Lb)) (fun _ u34 _=>3 - (intOf u34).toNat)
 case atStart=>exact⟨0,[],by omega,rfl,.inl ⟨rfl,h0,rfl⟩,fun _=>rfl,hS⟩
 case round =>
  clear hS
  obtain⟨i,Lb,hi,rfl,hB,hz0,hS⟩:=hrel
  have q1:=hpl i hi
  by_cases hlt:i<3
  ·have hcut:=hck i hlt
   have hP:=fun (w:World) vv h0 hw=>put_any (sz i) (hz i) (pre i) vv h0 E9 (vl i) (hvl i) w hw
   rw[<-hnx] at hP
   obtain⟨p7,c7,rfl⟩:=hB.slice
   refine Zxsm ?_;clear hS;intro _ _ _ b w w hS _ _
   refine F7 stp_list F1 F1 F1 F1 F1 E5 (hP _ _ hz0 (hB.inn hS D8)) ?_
   rintro e w2 ⟨sv2,rfl,ho,hBe⟩
   obtain⟨p8,c8,rfl⟩:=ho.slice
   refine⟨_,rfl,?_⟩
   refine F2 ?_
   obtain⟨Lb2,hB2,hS2⟩:=ho.join hS hBe
   have hS3:=own_st.drop (hS2.perm (A5c (l₂:=_::_::_::Lb)))
   replace hS:=St.left2 (A:=_::_::Lb2) (hS3.perm (.cons _ (.cons _ (A5c (l₁:=Lb)))))
   clear hS2 hS3 ho hBe
   refine Zdsm ?_;show _
   go_roundw
   case rel=>exact⟨i+1,Lb2,by omega,by push_cast;rfl,hB2,fun hz2=>absurd (congrArg List.length hz2) (by have:=hz i;unfold szd at this;rw[hnx,A3k,H6,A3S];omega),hS⟩
   case measure=>(simp[intOf];omega)
  ·obtain rfl:i=3:=by omega
   obtain⟨p7,c7,rfl⟩:=hB.slice
   repeat' (first|refine Zasm ?_|(refine Zg ?_;go_step)|fail)
   refine F7 stp_list F1 F1 F1 F1 F1 E5 (row_any (pre 3) l _ _ hz0 E9 hl _ (hB.inn hS D8) (hv.below hS.below)) ?_
   rintro e w2 ⟨sv2,rfl,ho,hBe⟩
   refine⟨_,rfl,?_⟩
   obtain⟨Lb2,hB2,hS2⟩:=ho.join hS hBe
   replace hS:=hS2
   clear hS2 ho hBe
   obtain⟨p8,c8,rfl⟩:=hB2.slice
   refine F2 ?_
   refine Zdsm ?_;show _
   go_ret2
   exact⟨_,rfl,hfin ▸ hB2.own hS D8,hS.below⟩
end
section
attribute [local irreducible] shaL tagL
section
variable{G:Nat}{cs:Array Value}{ty:TypeId}{fr:Nat × Nat}{w0:World}
theorem sid_any(hG:blk w0 G=some (.cells cs ty fr))(h5:cs[5]?=some (.int .i64 1)):Calls Tryz.prog 159 #[.pointer (some ⟨G,0,none⟩)] w0 fun e w'=>e=.returned (.int .i64 1)/\Below w0.heap.size w0 w':=by
 have hS:=St.start w0
 go_enter Tryz.func159,Tryz.ntmps159
 refine Zxsm ?_;show _
 go_ret
 exact⟨rfl,hS.below⟩
end
def PhF(B:Nat)(Y:List UInt8)(v:Value)(w:World):Prop:=∃v5,v=.agg #[.int .i64 2,.int .i64 1,.int .i64 0,v5]/\PhB B Y.length 5 (BytK Y) v5 w
theorem phF_mon{B:Nat}{Y:List UInt8}:MV.Mon (PhF B Y):=fun _ _ _ ⟨v5,h1,h2⟩ hb=>⟨v5,h1,O7 _ _ _ h2 hb⟩
def PhY(B:Nat)(Y:List UInt8)(v:Value)(w:World):Prop:=∃ga g c sp,v=.agg #[.slice (some ⟨ga,0,none⟩) 1 1,.bool false,.bool false]/\B<=ga/\B<=g/\Y.length<=c/\blk w ga=some (.cells #[.int .i64 2,.int .i64 1,.int .i64 0,.slice (some ⟨g,0,none⟩) Y.length c] 63 (0,0))/\blk w g=some (.cells (Y.map bv++sp).toArray 5 (0,0))
theorem phY_mon{B:Nat}{Y:List UInt8}:MV.Mon (PhY B Y):=fun _ _ _ ⟨ga,g,c,sp,h1,h2,h3,h4,h5,h6⟩ hb=>⟨ga,g,c,sp,h1,h2,h3,h4,T8 h5 hb,T8 h6 hb⟩
theorem lsays_any(B:Nat)(Y:List UInt8)(v:Value)(w0:World)(hB:B<=w0.heap.size)(h:PhF B Y v w0):Calls Tryz.prog 160 #[v] w0 fun e w'=>∃u,e=.returned u/\(PhY B Y u w'/\Below w0.heap.size w0 w'):=by
 obtain⟨v5,rfl,g,c,cs,rfl,h1,h2,h3,sp,rfl⟩:=h
 have hS:=St.start w0
 go_enter Tryz.func160,Tryz.ntmps160
 refine Zdsm ?_;clear hS;intro b w b w b w w hS
 exact G2 (n:=3) Tryz.results160 E7 (.inl rfl) _ _ _ _ rfl rfl (hS.blk 1 rfl) F1 ⟨_,rfl,⟨_,g,c,sp,rfl,A3T hB (hS.low 0 rfl),h1,h3,hS.blk 0 rfl,(hS.far h2).1⟩,hS.below⟩
theorem concatK{B:Nat}{ty:TypeId}(hty:ty=23)(v1 v2:Value)(l1 l2:List UInt8)(hne1:l1≠[])(hne2:l2≠[])(hm:l1.length+l2.length<=1000000000)(v:Value)(w:World)(hv1:BytesAt w v1 l1)(hv2:BytesAt w v2 l2)(h:PhB B 2 ty (fun c cs=>c=2/\cs=#[v1,v2]) v w) :
  Calls Tryz.prog 122 #[v] w fun e w'=>∃g c cs,e=.returned (.slice (some ⟨g,0,none⟩) (l1++l2).length c)/\w.heap.size<=g/\blk w' g=some (.cells cs 5 (0,0))/\BytK (l1++l2) c cs/\Below w.heap.size w w':=by
 subst hty
 obtain⟨b,c,cs,rfl,_,hb,rfl,rfl⟩:=h
 exact(concat_x v1 v2 l1 l2 hne1 hne2 hm b _ w hv1 hv2 hb).mono fun e w' ⟨g,c,sp,h1,h2,h3,h4,h5⟩=>⟨g,c,_,by rw[A3k];exact h1,h3,h4,⟨by rw[A3k];exact h2.1,sp,rfl⟩,h5⟩
theorem frame_built(v:Value)(hv:∃p n c,v=.slice p n c):Tryz.prog.built 63 [(0,.int .i64 2),(1,.int .i64 1),(3,v)]=some #[.int .i64 2,.int .i64 1,.int .i64 0,v]:=by
 obtain⟨_,_,_,rfl⟩:=hv
 kernel_rfl
theorem yields_frame{B:Nat}{Y:List UInt8}{o:Oper}{a:Act}{w:World}{v5:Value}{parts:Array (Nat × Operand)}(h:PhB B Y.length 5 (BytK Y) v5 w)(hop:o.op=.build 63 parts)(hp:evp a parts.toList=some [(0,.int .i64 2),(1,.int .i64 1),(3,v5)]):MV.yieldsAt Tryz.prog o a (fun v w''=>PhF B Y v w''/\Below w.heap.size w w'') w:=by
 have hb:=frame_built v5 (by obtain⟨g,c,_,h1,_⟩:=h;exact⟨_,_,_,h1⟩)
 unfold MV.yieldsAt
 rw[L8 hop hp hb]
 exact⟨⟨_,rfl,h⟩,Below.refl _ _⟩
def PhZ(B:Nat)(ty:TypeId)(cs:Array Value)(v:Value)(w:World):Prop:=∃b,v=.pointer (some ⟨b,0,none⟩)/\B<=b/\blk w b=some (.cells cs ty (0,0))
theorem phZ_mon{B:Nat}{ty:TypeId}{cs:Array Value}:MV.Mon (PhZ B ty cs):=fun _ _ _ ⟨b,h1,h2,h3⟩ hb=>⟨b,h1,h2,T8 h3 hb⟩
theorem yields_allocZ{P:Program}{o:Oper}{a:Act}{w W:World}{t:TypeId}{cs:Array Value}(hB:Cls W w)(hop:o.op=.alloc t)(hz:ZeroT P t cs):MV.yieldsAt P o a (fun v w''=>PhZ W.heap.size t cs v w''/\Below w.heap.size w w'') w:=by
 unfold MV.yieldsAt
 rw[r_alloc hop hz]
 exact⟨⟨w.heap.size,rfl,hB.size,by rw[P5];exact if_pos rfl⟩,(Below.refl _ _).alloc (A3t _) _⟩
theorem own_keep{Bd:Nat}{H:World->List Blk->Prop}(hH:Own Bd H){w:World}{L L':List Blk}(h:H w L)(I:List Nat)(n:Nat)(hL:L'=(I.filterMap (L[·]?))++L.drop n)(hI:(I.all (· < n) && decide I.Nodup)=true:=by rfl):H w L':=by
 have hn:=hH.nodup h
 simp only[A3A,A3V,decide_eq_true_eq] at hI
 subst hL
 refine hH.sub h (fun x hx=>?_) ?_
 ·rcases A3Y.1 hx with h1|h1
  ·obtain⟨i,_,hi⟩:=List.mem_filterMap.1 h1
   exact A4d hi
  ·exact List.mem_of_mem_drop h1
 ·rw[A3J,A5e]
  refine⟨?_,?_,?_⟩
  ·have:∀J:List Nat,J.Nodup->((J.filterMap (L[·]?)).map (·.1)).Nodup:=fun J=>by
    induction J with
    | nil=>intro _;simp
    | cons j J ih =>
     intro hj
     rw[A4a] at hj
     rw[A5F]
     cases hq:L[j]? with
     | none=>exact ih hj.2
     | some x =>
      simp only[A3X,A4a]
      refine⟨fun hm=>?_,ih hj.2⟩
      obtain⟨y,hy,he⟩:=A3C.1 hm
      obtain⟨k,hk,hky⟩:=List.mem_filterMap.1 hy
      have:j=k:=(List.getElem?_inj (by rw[A3u];exact(A3n.1 hq).1) hn).1 (by rw[A3N,A3N,hq,hky];exact congrArg some he.symm)
      exact hj.1 (this ▸ hk)
   exact this I hI.2
  ·rw[A5a]
   exact hn.sublist (List.drop_sublist ..)
  ·intro a ha b hb e
   subst e
   obtain⟨x,hx,rfl⟩:=A3C.1 ha
   obtain⟨i,hi,hix⟩:=List.mem_filterMap.1 hx
   obtain⟨y,hy,he⟩:=A3C.1 hb
   obtain⟨k,hk⟩:=A5m hy
   rw[A4z] at hk
   have:i=n+k:=(List.getElem?_inj (by rw[A3u];exact(A3n.1 hix).1) hn).1 (by rw[A3N,A3N,hix,hk];exact congrArg some he.symm)
   have:=hI.1 i hi
   omega
theorem lhello_any{Bd:Nat}{H:World->List Blk->Prop}(hH:Own Bd H){G:Nat}{m:Int}{a xv:Value}{p:Option Addr}{ny cy:Nat}{y r D:List UInt8}(hr:r.length=16)(hy1:1<=y.length/\y.length<=64)(hD:D.length=32){L:List Blk}{w0:World}(hy:BytesM L (.slice p ny cy) y){dv:Value}(hd:BytesM L dv r)
  (hS:H w0 ((G,midC [a,.int .i64 m,xv,.slice p ny cy,.int .i64 0,.int .i64 0] (zs 32) [.int .i64 0],211)::L)):Calls Tryz.prog 104 #[.pointer (some ⟨G,0,none⟩),.agg #[.int .i64 1,.int .i64 m,.int .i64 0,dv],.agg (bvs D)] w0 fun e w'=>∃(ga g c:Nat)(sp:List Value)(Y:List UInt8)(CS:Array Value),e=.returned (.agg #[.slice (some ⟨ga,0,none⟩) 1 1,.bool true,.bool false])/\Y.length=64/\64<=c/\H w' ((ga,#[.int .i64 2,.int .i64 1,.int .i64 0,.slice (some ⟨g,0,none⟩) 64 c],63)::(g,(Y.map bv++sp).toArray,5)::(G,CS,211)::L):=by
 obtain⟨bd,od,cd,csd,tyd,rfl,_⟩:=id hd
 have sD:csz (bvs D)=32:=by rw[F3,hD]
 have sD2:(bvs D).size=32:=by rw[<-H5];exact sD
 rw[hr]
 have sC:csz (midC [a,.int .i64 m,xv,.slice p ny cy,.int .i64 0,.int .i64 0] (zs 32) [.int .i64 0])=39:=by rw[S7,zs_len];rfl
 have c1:(midC [a,.int .i64 m,xv,.slice p ny cy,.int .i64 0,.int .i64 0] (zs 32) [.int .i64 0])[1]?=some (.int .i64 m):=rfl
 have c5:(midC [a,.int .i64 m,xv,.slice p ny cy,.int .i64 0,.int .i64 0] (zs 32) [.int .i64 0])[5]?=some (.int .i64 0):=rfl
 obtain⟨C0,hC0⟩:∃x,midC [a,.int .i64 m,xv,.slice p ny cy,.int .i64 0,.int .i64 0] (zs 32) [.int .i64 0]=x:=⟨_,rfl⟩
 rw[hC0] at hS sC c1 c5
 go_enter Tryz.func104,Tryz.ntmps104
 refine ZdHm ?_;clear hS;intro _ b w b w b w hS _ _ _ _
 refine F6 20 E7 E7 ?_
 dsimp only[List.take,List.drop]
 iterate 20 (first|refine ZQm ?_|refine ZUH ?_|(refine Zw ?_;apply Exists.intro;refine⟨fun pB w' hw' hF=>?_,?_⟩;(focus (have hZ:=(hH).call hS hw';exact N7 hH hZ (hv:=by rw[A3r];exact c1)));refine Zo ?_))
 refine Zn hH hS ?_
 clear hS
 intro pB w hS
 try dsimp only
 repeat' (first|refine ZbHm ?_|(refine Zll ?_;((refine I8 stp_list hH hS ?_ (hv:=by rw[A3r];exact c5))<;>refine F2 ?_))|(refine ZtHm ?_;clear hS;intro w hS)|(refine Zg ?_;go_step)|fail)
 have hCC:paste (C0.setIfInBounds 5 (.int .i64 1)) 6 (bvs D)=midC [a,.int .i64 m,xv,.slice p ny cy,.int .i64 0,.int .i64 1] (owL (zs 32) 0 D) [.int .i64 0]:=by
  rw[<-hC0,A0U F0,A1L (o:=0) F0 F0 E1];rfl
 replace hS:=show H _ ((_,_,_)::(_,_,_)::(_,_,_)::(G,paste (C0.setIfInBounds 5 (.int .i64 1)) 6 (bvs D),211)::L) from hS
 rw[hCC] at hS
 have sC2:csz (midC [a,.int .i64 m,xv,.slice p ny cy,.int .i64 0,.int .i64 1] (owL (zs 32) 0 D) [.int .i64 0])=39:=by rw[S7,K0 E1,zs_len];rfl
 have c3:((midC [a,.int .i64 m,xv,.slice p ny cy,.int .i64 0,.int .i64 1] (owL (zs 32) 0 D) [.int .i64 0]).setIfInBounds 4 (.int .i64 1))[3]?=some (.slice p ny cy):=by rw[A0U F0,X7 F0];rfl
 have c6:((midC [a,.int .i64 m,xv,.slice p ny cy,.int .i64 0,.int .i64 1] (owL (zs 32) 0 D) [.int .i64 0]).setIfInBounds 4 (.int .i64 1))[5]?=some (.int .i64 1):=by rw[A0U F0,X7 F0];rfl
 generalize midC [a,.int .i64 m,xv,.slice p ny cy,.int .i64 0,.int .i64 1] (owL (zs 32) 0 D) [.int .i64 0]=C1 at *
 clear hC0 hCC c1 c5 sC
 repeat' (first|(refine ZtHm ?_;clear hS;intro w hS)|(refine Zg ?_;go_step)|fail)
 generalize C1.setIfInBounds 4 (.int .i64 1)=C2 at *
 clear sC2
 have hny:y≠[]/\y.length<=1000:=⟨by intro e;rw[e] at hy1;simp at hy1,by omega⟩
 have hnr:r≠[]/\r.length<=5000:=⟨by intro e;rw[e] at hr;simp at hr,by omega⟩
 have lA:(ansL 1 y r).length=32:=Y3 _
 have han:=fun sv cv w h1 h2=>answer_any 1 y r hny hnr sv cv w h1 h2
 generalize ansL 1 y r=A at *
 have sA:csz (bvs A)=32:=by rw[F3,lA]
 rw[hr] at hd
 refine F6 11 E7 E7 ?_
 dsimp only[List.take,List.drop]
 iterate 11 (first|(refine Zw ?_;apply Exists.intro;refine⟨fun pB w' hw' hF=>?_,?_⟩;(focus (have hZ:=(hH).call hS hw';first|exact(G8 (sid_any (hH.blk 3 hZ rfl) c6))|exact(G8 (han _ _ _ (hy.at hH hZ D8) (hd.at hH hZ D8)))));refine Zo ?_)|refine ZQm ?_|refine ZUH ?_|refine ZQz ?_|(refine Zw ?_;apply Exists.intro;refine⟨fun pB w' hw' hF=>?_,?_⟩;(focus (have hZ:=(hH).call hS hw';exact N7 hH hZ (hv:=by rw[A3r];exact c3)));refine Zo ?_))
 refine Zn hH hS ?_
 clear hS
 intro pB w hS
 try dsimp only
 repeat' (first|(refine ZtHm ?_;clear hS;intro w hS)|(refine Zg ?_;go_step)|fail)
 rename_i bF z8 bD z9 z10 b1 z1 z2 z3 z4 z5 z6 z7
 obtain⟨bA,hbA⟩:∃x,pB (0+1+1+1+1+1+1+1+1+1+1)=x:=⟨_,rfl⟩
 rw[hbA] at hS |-
 clear hbA
 have hnD:D≠[]:=by intro e;rw[e] at hD;simp at hD
 have hnA:A≠[]:=by intro e;rw[e] at lA;simp at lA
 have hS0:=hS
 rename World=>wq
 refine MV.region_val_lit 9 E7 E7 ?_
 dsimp only[List.take,List.drop]
 iterate 9 (first|(refine MV.wpV_want (fun _=>rfl) (fun K hK=>?_);apply Exists.intro;refine⟨fun pB w' hw' hF=>?_,hK _ _ ?_⟩;(focus (have hZ:=(hH).call hS hw';exact(G8 (sid_any (hH.blk 4 hZ rfl) c6))));clear hK K;refine Zo ?_)|refine ZV ?_|(refine MV.wpV_same (PhB wq.heap.size 2 23 (fun c cs=>c=2/\cs=#[.slice (some ⟨bD,0,none⟩) 32 32,.slice (some ⟨bA,0,none⟩) 32 32])) (O7) (fun _=>rfl) (fun bb w' hw' hF=>?_) ?_;(focus (have hZ:=(hH).call hS hw';exact A2p hw' F1 F1 E5 F1 (by intro v hv;rcases A3G.1 hv with rfl|hv;rfl;rcases A4p.1 hv with rfl;rfl) F1 E8 E8));refine Zo ?_)|(refine MV.wpV_same (PhB wq.heap.size (D++A).length 5 (BytK (D++A))) (O7) (fun _=>rfl) (fun bb w' hw' hF=>?_) ?_;(focus (have hZ:=(hH).call hS hw';exact MV.yields_call (T5 (concatK rfl _ _ D A hnD hnA E9 _ _ (F8 (pre:=[]) (post:=[]) (off:=0) (n:=32) (c:=32) (hH.blk 2 hZ rfl) (by simp[bvs]) rfl hD (A3t _)) (F8 (pre:=[]) (post:=[]) (off:=0) (n:=32) (c:=32) (hH.blk 0 hZ rfl) (by simp[bvs]) rfl lA (A3t _)) (MV.FactsAt.at (Φ:=PhB wq.heap.size 2 23 (fun c cs=>c=2/\cs=#[.slice (some ⟨bD,0,none⟩) 32 32,.slice (some ⟨bA,0,none⟩) 32 32])) 4 hF)) hw')));refine Zo ?_)|(refine MV.wpV_same (PhF wq.heap.size (D++A)) (phF_mon) (fun _=>rfl) (fun bb w' hw' hF=>?_) ?_;(focus (have hZ:=(hH).call hS hw';exact yields_frame (MV.FactsAt.at (Φ:=PhB wq.heap.size (D++A).length 5 (BytK (D++A))) 5 hF) F1 F1));refine Zo ?_)|(refine MV.wpV_same (PhY wq.heap.size (D++A)) (phY_mon) (fun _=>rfl) (fun bb w' hw' hF=>?_) ?_;(focus (have hZ:=(hH).call hS hw';exact MV.yields_call (lsays_any _ _ _ _ hw'.size (MV.FactsAt.at (Φ:=PhF wq.heap.size (D++A)) 6 hF))));refine Zo ?_)|(refine MV.wpV_same (PhZ wq.heap.size 158 #[.slice none 0 0,.bool false,.bool false]) (phZ_mon) (fun _=>rfl) (fun bb w' hw' hF=>?_) ?_;(focus (have hZ:=(hH).call hS hw';exact yields_allocZ hw' F1 E5));refine Zo ?_))
 refine MV.wpV_nil ?_
 intro bb w hcq hfq
 replace hS:=(hH).call hS hcq
 try dsimp only
 have fY:=hfq (7,PhY wq.heap.size (D++A)) F0
 have fZ:=hfq (8,PhZ wq.heap.size 158 #[.slice none 0 0,.bool false,.bool false]) F0
 dsimp only at fY fZ
 obtain⟨Y1,hY1⟩:∃x,bb (0+1+1+1+1+1+1+1)=x:=⟨_,rfl⟩
 obtain⟨Z1,hZ1⟩:∃x,bb (0+1+1+1+1+1+1+1+1)=x:=⟨_,rfl⟩
 rw[hY1,hZ1]
 rw[show bb 7=Y1 from hY1] at fY
 rw[show bb 8=Z1 from hZ1] at fZ
 clear hfq hY1 hZ1 hcq
 have lY:(D++A).length=64:=by rw[A3k];omega
 obtain⟨ga,g,c,sp,rfl,q1,q2,q3,q4,q5⟩:=fY
 obtain⟨bz,rfl,q6,q7⟩:=fZ
 rw[lY] at q3 q4
 have n1:ga≠g:=fun e=>by subst e;rw[q4] at q5;simp at q5
 have n2:bz≠ga:=fun e=>by subst e;rw[q4] at q7;simp at q7
 have n3:bz≠g:=fun e=>by subst e;rw[q5] at q7;simp at q7
 replace hS:=Own.takes hH hS hS0 [(bz,#[.slice none 0 0,.bool false,.bool false],158),(ga,#[.int .i64 2,.int .i64 1,.int .i64 0,.slice (some ⟨g,0,none⟩) 64 c],63),(g,((D++A).map bv++sp).toArray,5)] (by simp[n1,n2,n3]) (fun z hz=>by
  simp only[A3G,A3W,or_false] at hz
  rcases hz with rfl|rfl|rfl
  ·exact⟨q6,q7⟩
  ·exact⟨q1,q4⟩
  ·exact⟨q2,q5⟩)
 simp only[A3F,A3q] at hS
 clear hS0 q1 q2 q4 q5 q6 q7 n1 n2 n3
 repeat' (first|refine ZaHm ?_|(refine ZtHm ?_;clear hS;intro w hS)|(refine Zg ?_;go_step)|fail)
 refine G2 (n:=3) Tryz.results104 E7 (.inl rfl) _ _ _ _ rfl rfl (hH.blk 4 hS rfl) F1 ⟨ga,g,c,sp,D++A,C2,rfl,lY,q3,own_keep hH hS [1,2,7] 8 rfl⟩
theorem handle_any{Bd:Nat}{H:World->List Blk->Prop}(hH:Own Bd H){G:Nat}{m:Int}{a xv:Value}{p:Option Addr}{ny cy:Nat}{y r D:List UInt8}(hr:r.length=16)(hy1:1<=y.length/\y.length<=64)(hD:D.length=32){L:List Blk}{w0:World}(hy:BytesM L (.slice p ny cy) y){dv:Value}(hd:BytesM L dv r)
  (hS:H w0 ((G,midC [a,.int .i64 m,xv,.slice p ny cy,.int .i64 0,.int .i64 0] (zs 32) [.int .i64 0],211)::L)):Calls Tryz.prog 64 #[.pointer (some ⟨G,0,none⟩),.agg #[.int .i64 1,.int .i64 m,.int .i64 0,dv],.agg (bvs D)] w0 fun e w'=>∃(ga g c:Nat)(sp:List Value)(Y:List UInt8)(CS:Array Value),e=.returned (.agg #[.slice (some ⟨ga,0,none⟩) 1 1,.bool true,.bool false])/\Y.length=64/\64<=c/\H w' ((ga,#[.int .i64 2,.int .i64 1,.int .i64 0,.slice (some ⟨g,0,none⟩) 64 c],63)::(g,(Y.map bv++sp).toArray,5)::(G,CS,211)::L):=by
 obtain⟨bd,od,cd,csd,tyd,rfl,_⟩:=id hd
 have sD:csz (bvs D)=32:=by rw[F3,hD]
 have sD2:(bvs D).size=32:=by rw[<-H5];exact sD
 obtain⟨C0,hC0⟩:∃x,midC [a,.int .i64 m,xv,.slice p ny cy,.int .i64 0,.int .i64 0] (zs 32) [.int .i64 0]=x:=⟨_,rfl⟩
 have hhl:=fun w L' h1 h2 h3=>lhello_any hH (G:=G) (m:=m) (a:=a) (xv:=xv) (p:=p) (ny:=ny) (cy:=cy) hr hy1 hD (L:=L') (w0:=w) h1 (dv:=.slice (some ⟨bd,od,none⟩) r.length cd) h2 h3
 rw[hC0] at hS hhl
 go_enter Tryz.func64,Tryz.ntmps64
 repeat' (first|refine ZaHm ?_|(refine ZkH ?_;clear hS;intro b w hS)|(refine Zll ?_;(refine Stp.go stp_list F1 F1 (r_eqPN F1 F1 Tryz.underlying150) ?_;refine F2 ?_))|(refine Zg ?_;go_step)|fail)
 have hS2:=Y5 hH hS (L':=(G,C0,211)::_::_::_::L) ((List.perm_middle (l₁:=[_,_,_])).symm.trans (.refl _)).symm
 refine F7 stp_list F1 F1 F1 F1 F1 E5 (hhl _ _ (hy.mono D8) (hd.mono D8) hS2) ?_
 clear hS hS2
 rintro e w2 ⟨ga,g,c,sp,Y,CS,rfl,lY,q1,hS⟩
 refine⟨_,rfl,?_⟩
 refine F2 ?_
 refine ZdHm ?_;clear hS;intro w hS
 exact G2 (n:=3) Tryz.results64 E7 (.inl rfl) _ _ _ _ rfl rfl (hH.blk 3 hS rfl) F1 ⟨ga,g,c,sp,Y,CS,rfl,lY,q1,own_keep hH hS [0,1,2] 6 rfl⟩
end
end
section
open Go.ChangeShapes Go.WideShapes Go.ChangeAt Go.RowKit
attribute [local irreducible] wpList wpListIn Oper.quietAt wpM
open PK (okI)
attribute [local irreducible] shaL tagL
section
variable{rd rdp:Rdr}{w1 w0:World}{g:G4}{N:Nat}{su:List UInt8}{co:List Int}{L:List Blk}
theorem vread_blank(hrd:RdCel rd)(hD:Dk rd w1 g Fon N su [] co w0 L){V:Nat}{cn:Int}{ba:Nat}{hv lv kv:Value}{ct:Int}{M:List UInt8}{tv:Nat->Value}{ty:TypeId}(hM:M.length=728)(hV:(V,vC g.P cn (ba:Int) hv lv kv ct M (tv 0) (tv 1) false,ty)∈L)(hb:ba+117<=N)(hT:TreeM L (tv 0) (zs 1024))(hr:sl M 0 32=nd (zs 1024) 1) :
  Calls Tryz.prog 32 #[.pointer (some ⟨V,0,none⟩),.int .i64 0,.int .i64 0] w0 fun e w'=>e=.returned (okR (zs 128))/\Below w0.heap.size w0 w':=by
 have hN:=hD.ok
 obtain⟨⟨hN1,hN2⟩,hsu,_,_,_,_⟩:=hN
 have hVb:=own_dk.mem hD hV
 have hTa:=hT
 obtain⟨lT,bT,cT,sp,tyT,e1,e2,e3,hTm⟩:=hT
 have hTb:=own_dk.mem hD hTm
 have hta:=fun w (h:Below w0.heap.size w0 w)=>hTa.at own_dk (hD.start h) (fun x hx=>hx)
 rw[e1] at hta
 have hS:=St.start w0
 have sZ:csz (bvs (zs 128))=128:=by rw[F3,zs_len]
 have sZ6:csz (bvs (zs 64))=64:=by rw[F3,zs_len]
 have sZ3:csz (bvs (zs 32))=32:=by rw[F3,zs_len]
 have hut:=fun w=>unit_any 0 _ rfl w
 rw[decide_eq_true ⟨by omega,by omega⟩] at hut
 have hba:∀w:World,Calls Tryz.prog 56 #[.int .i64 0,.int .i64 0] w fun e w'=>e=.returned (.int .i64 69)/\Below w.heap.size w w':=fun w=>blockAt_any 0 0 E9 E9 w
 have sV:=Q4 (P:=g.P) (cn:=cn) (bs:=(ba:Int)) (h:=hv) (l:=lv) (k:=kv) (ct:=ct) (t0:=tv 0) (t1:=tv 1) (dn:=false) hM
 have vd:=vC_737 (P:=g.P) (cn:=cn) (bs:=(ba:Int)) (h:=hv) (l:=lv) (k:=kv) (ct:=ct) (t0:=tv 0) (t1:=tv 1) (dn:=false) hM
 have v0:=vC_0 (P:=g.P) (cn:=cn) (bs:=(ba:Int)) (h:=hv) (l:=lv) (k:=kv) (ct:=ct) (M:=M) (t0:=tv 0) (t1:=tv 1) (dn:=false)
 have v2:=vC_2 (P:=g.P) (cn:=cn) (bs:=(ba:Int)) (h:=hv) (l:=lv) (k:=kv) (ct:=ct) (M:=M) (t0:=tv 0) (t1:=tv 1) (dn:=false)
 have vt:(vC g.P cn (ba:Int) hv lv kv ct M (tv 0) (tv 1) false)[735]?=some (.slice (some ⟨bT,0,none⟩) 32 cT):=by
  rw[<-e1]
  exact vC_735 hM
 have ck:cut (vC g.P cn (ba:Int) hv lv kv ct M (tv 0) (tv 1) false) 607 64=bvs (sl M 600 64):=mid_cut F0 F0 E9
 have cr:cut (vC g.P cn (ba:Int) hv lv kv ct M (tv 0) (tv 1) false) 7 32=bvs (sl M 0 32):=mid_cut F0 F0 E9
 have hg:=fun w h=>gone_any vd w h (V:=V) (ty:=ty)
 have hrc:=fun w (h:Below w0.heap.size w0 w)=>read_on hrd (hD.start h) ((ba:Int)+69) ⟨by omega,by omega⟩
 obtain⟨KK,hKK⟩:∃x,sl M 600 64=x:=⟨_,rfl⟩
 have lK:KK.length=64:=by rw[<-hKK];exact sl_len E9
 rw[hKK] at ck
 have sK:csz (bvs KK)=64:=by rw[F3,lK]
 have lM:(sl KK 32 32).length=32:=sl_len E9
 have lr:=sl_len (M:=M) (o:=0) (n:=32) E9
 obtain⟨RT,hRT⟩:∃x,sl M 0 32=x:=⟨_,rfl⟩
 rw[hRT] at cr lr hr
 have sR:csz (bvs RT)=32:=by rw[F3,lr]
 have cT1:=cut_tr (sp:=sp) lT (i:=16) E9
 have hz:nd (zs 1024) (16+0)=zs 32:=nd_zs E9
 have hsm:=climbL_same (mk:=sl KK 32 32) (b:=0) (zs_len 1024) E9 (proper_zs _)
 rw[hz] at hsm
 rw[show nd (zs 1024) 16=zs 32 from hz] at cT1
 have sT:=csz_tr (zs 1024) sp lT
 have hve:∀w v tv',BytesAt w v (sl KK 32 32)->TreeAt w tv' (zs 1024)->Calls Tryz.prog 57 #[v,tv',.agg (bvs RT),.int .i64 0,.agg (bvs (zs 32))] w fun e w'=>e=.returned (.bool true)/\Below w.heap.size w w':=fun w v tv' h1 h2=>by
  have:=verify_any (sl KK 32 32) E9 (zs 1024) RT lr 0 E9 (zs 32) (zs_len 32) v tv' w h1 h2
  rw[hsm,decide_eq_true hr.symm] at this
  exact this
 have hq:(zs 32 == zs 32)=true:=by simp
 generalize hVC:vC g.P cn (ba:Int) hv lv kv ct M (tv 0) (tv 1) false=VC at *
 have lC:=celX_len (i:=((ba:Int)+69).toNat) hsu E9
 generalize celX su ((ba:Int)+69).toNat=CX at *
 have sCX:csz (bvs CX)=128:=by rw[F3,lC]
 go_enter Tryz.func32,Tryz.ntmps32
 repeat' (first|refine Zbsm ?_|(refine Zks ?_;clear hS;intro b w hS)|(refine Zll ?_;first|(refine g_calls hS (hg _ (hS.far hVb).1) ?_;clear hS;intro w hS)|(refine g_calls hS (hut _) ?_;clear hS;intro w hS))|(refine Zg ?_;go_step)|fail)
 refine M7 17 19 19 E7 E7 B7 E7 (fun d _ _ _ _ h=>by cases d<;>exact h) ?_
 dsimp only[List.take,List.drop]
 iterate 19 (first|(refine Zw ?_;apply Exists.intro;refine⟨fun pB w' hw' hF=>?_,?_⟩;(focus (have hZ:=(own_st).call hS hw';first|exact(G8 (hba _))|exact(G8 (hrc _ hZ.below))));refine Zo ?_)|refine ZQm ?_|refine ZQz ?_|refine ZXs ?_)
 refine Zn own_st hS ?_
 clear hS
 intro pB w hS
 try dsimp only
 generalize pB _=b8 at hS |-
 refine Zdsm ?_;clear hS;intro w hS _ _
 refine F6 24 E7 E7 ?_
 dsimp only[List.take,List.drop]
 iterate 24 (first|refine ZQm ?_|refine ZQz ?_|refine ZXs ?_)
 refine Zn own_st hS ?_
 clear hS
 intro pB w hS
 try dsimp only
 generalize pB _=bR at hS |-
 generalize pB _=bK at hS |-
 repeat' (first|(refine Zll ?_;first|(refine Stp.go stp_list F1 F1 (L8 F1 F1 A0L) ?_;refine F2 ?_)|(refine Stp.go stp_list F1 F1 (r_eqAB (n:=32) F1 F1 F1 E7 E7 (zs_len 32) (zs_len 32) hq) ?_;refine F2 ?_))|refine Zbsm ?_|(refine Zll ?_;((refine K3 stp_list (by exact((hS).far hTb).1) ?_ (hv:=by(exact cT1)))<;>refine F2 ?_))|(refine Ztsm ?_;clear hS;intro w hS)|(refine Zg ?_;go_step)|fail)
 refine F6 8 E7 E7 ?_
 dsimp only[List.take,List.drop]
 iterate 8 (first|(refine Zw ?_;apply Exists.intro;refine⟨fun pB w' hw' hF=>?_,?_⟩;(focus (have hZ:=(own_st).call hS hw';first|exact(G8 (hve _ _ _ (sl_bytes (o:=32) (n:=32) (c:=32) (own_st.blk 1 hZ rfl) E9 E9) (hta _ hZ.below)))|exact(I9 (L8 F1 F1 A0L))));refine Zo ?_)|refine ZQm ?_|refine ZQs ?_)
 refine Zn own_st hS ?_
 clear hS
 intro pB w hS
 try dsimp only
 refine Zdsm ?_;clear hS;intro _ w hS
 exact M9 (n:=128) Tryz.results32 E7 (.inl rfl) _ _ _ _ rfl rfl (hS.blk 3 rfl) D4 ⟨rfl,hS.below⟩
def celF(C:List UInt8):List Value:=C.map bv
theorem image_any(hrd:RdCel rd)(hD:Dk rd w1 g Fon N su [] co w0 L){T:Nat}{C:Cf}{sv mv dv tv rv:Value}{tick:Int}(hTm:(T,tgC g.P C sv mv dv tv rv tick,80)∈L) :
  Calls Tryz.prog 13 #[.pointer (some ⟨T,0,none⟩)] w0 fun e w'=>(∃p c,e=.returned (.slice p N c))/\Below w0.heap.size w0 w':=by
 obtain⟨⟨hN1,hN2⟩,hsu,_,_,_,_⟩:=hD.ok
 have hTb:=own_dk.mem hD hTm
 unfold tgC at hTb
 obtain⟨ar,lf,dn,st,hP,hC⟩:=hD.blkP
 have hsz:=fun w (h:Below w0.heap.size w0 w)=>A2P (w0:=w) hN2 ((h.block g.P (G1 hP)).trans hP)
 have hrc:=fun w (h:Below w0.heap.size w0 w) k (hk:k<N)=>read_on hrd (hD.start h) (k:Int) ⟨by omega,by omega⟩
 have hS:=St.start w0
 go_enter Tryz.func13,Tryz.ntmps13
 repeat' (first|refine Zasm ?_|refine Zvs ?_|(refine Zll ?_;first|(refine Stp.go stp_list F1 F1 (r_eqPN F1 F1 Tryz.underlying30) ?_;refine F2 ?_)|(refine g_calls hS (hsz _ hS.below) ?_;clear hS;intro w hS))|(refine Zg ?_;go_step)|fail)
 go_loopw [3,15] (fun u3 u15 wr=>∃(k:Nat)(l:List (List UInt8))(Lr:List Blk),k<=N/\l.length=k/\(∀C∈l,C.length=128)/\u15=.int .i64 (k:Int)/\OwL celF 128 36 l u3 Lr/\St w0 wr Lr) (fun _ u15 _=>N - (intOf u15).toNat)
 case atStart=>exact⟨0,[],[],by omega,rfl,fun C h=>(by cases h),rfl,.inl ⟨rfl,rfl,rfl⟩,hS⟩
 case round =>
  clear hS
  obtain⟨k,l,Lr,hk,hl,hl8,rfl,hR,hS⟩:=hrel
  obtain⟨p2,c2,rfl⟩:=hR.slice
  by_cases hlt:k<N
  ·have hrk:=fun w h=>hrc w h k hlt
   rw[A3U] at hrk
   have lC:=celX_len (i:=k) hsu hlt
   obtain⟨X,hX⟩:∃x,celX su k=x:=⟨_,rfl⟩
   rw[hX] at hrk lC
   have sX:csz (bvs X)=128:=by rw[F3,lC]
   have sX2:(bvs X).size=128:=by rw[<-H5];exact sX
   repeat' (first|refine Zasm ?_|(refine Zll ?_;((refine G3 stp_list (by exact((hS).far hTb).1) ?_)<;>refine F2 ?_))|(refine Zks ?_;clear hS;intro b w hS)|(refine Ztsm ?_;clear hS;intro w hS)|(refine Zll ?_;(refine g_calls hS (hrk _ hS.below) ?_;clear hS;intro w hS))|(refine Zg ?_;go_step)|fail)
   have hS2:=hS.erase 1
   simp only[A4c,A4b] at hS2
   refine A1G (f:=celF) (x0:=X) (L:=[]) stp_list own_st (by rw[A3Q];exact hS2) hR F1 F1 F1 F1 E5 (fun a ha=>by unfold celF;rw[A3u];exact hl8 a ha) (by unfold celF;rw[A3u];exact lC) (R9 X) D9 ?_
   intro sv' Lr' w' hR' hS'
   rw[A3Q] at hS'
   clear hS hS2
   have hS:=hS'
   clear hS'
   obtain⟨p3,c3,rfl⟩:=hR'.slice
   refine F2 ?_
   refine Zdsm ?_;show _
   go_roundw
   case rel=>exact⟨k+1,l++[X],Lr',by omega,by rw[A3k,hl];rfl,fun C hC=>by rcases A3Y.1 hC with h|h;exact hl8 C h;rcases A4p.1 h with rfl;exact lC,by push_cast;rfl,hR',hS⟩
   case measure=>(simp[intOf];omega)
  ·obtain rfl:k=N:=by omega
   refine Zdsm ?_;intro _ _ _
   go_ret
   exact⟨⟨p2,c2,by rw[hl];rfl⟩,hS.below⟩
end
section
variable{X:Nat}{cs:Array Value}{ty:TypeId}{fr:Nat × Nat}{w0:World}
theorem xbroken_in(hX:blk w0 X=some (.cells cs ty fr))(c2:cs[2]?=some (.bool false)):Calls Tryz.prog 31 #[.pointer (some ⟨X,0,none⟩)] w0 fun e w'=>e=.returned (.bool false)/\Below w0.heap.size w0 w':=by
 have hS:=St.start w0
 go_enter Tryz.func31,Tryz.ntmps31
 repeat' (first|refine Zbsm ?_|refine Zvs ?_|(refine Zll ?_;(refine Stp.go stp_list F1 F1 (r_nePN F1 F1 Tryz.underlying83) ?_;refine F2 ?_))|(refine Zg ?_;go_step)|fail)
 go_ret
 exact⟨rfl,hS.below⟩
end
section
variable{rd rdp:Rdr}{w1 w0:World}{C:Cf}{n:Nat}{tick:Int}{T:Nat}
theorem tgt_image(hrd:RdCel rd)(h:Tgt rd rdp w1 C n tick T w0):Calls Tryz.prog 13 #[.pointer (some ⟨T,0,none⟩)] w0 fun e w'=>(∃p c,e=.returned (.slice p (117*n) c))/\Below w0.heap.size w0 w':=by
 obtain⟨g,TA,CS,X,Q,B,su,co,Lx,nn,D,sv,mv,dv,rv,hCS,hD,_⟩:=h
 exact image_any hrd hD (A3m ..)
theorem Tgt.keep{w:World}(h:Tgt rd rdp w1 C n tick T w0)(hb:Below w0.heap.size w0 w):Tgt rd rdp w1 C n tick T w:=by
 obtain⟨g,TA,CS,X,Q,B,su,co,Lx,nn,D,sv,mv,dv,rv,hCS,hD,hten,hm,hs⟩:=h
 have:=(own_mp (rd:=rdp) (B:=B (n - 1)) (n:=nn) (D:=D) own_dk).call ⟨hD,hm⟩ hb
 exact⟨g,TA,CS,X,Q,B,su,co,Lx,nn,D,sv,mv,dv,rv,hCS,this.1,hten,this.2,hs⟩
theorem tgt_out(hn:n<=3)(h:Tgt rd rdp w1 C n tick T w0){i:Int}(hi:i<0\/(n:Int)<=i)(u m:Int):Calls Tryz.prog 6 #[.pointer (some ⟨T,0,none⟩),.int .i64 i,.int .i64 u,.int .i64 m] w0 fun e w'=>e=.returned (badR 1)/\Below w0.heap.size w0 w':=by
 obtain⟨g,TA,CS,X,Q,B,su,co,Lx,nn,D,sv,mv,dv,rv,hCS,hD,_⟩:=h
 have hTb:=own_dk.blk 0 hD rfl
 have hat:=fun w (h:Below w0.heap.size w0 w)=>at_out E9 ((h.block T (G1 hTb)).trans hTb) hi (w0:=w)
 have hS:=St.start w0
 have sZ:csz (bvs (zs 128))=128:=by rw[F3,zs_len]
 go_enter Tryz.func6,Tryz.ntmps6
 repeat' (first|refine Zasm ?_|(refine Zks ?_;clear hS;intro b w hS)|(refine Ztsm ?_;clear hS;intro w hS)|(refine Zll ?_;first|(refine g_calls hS (hat _ hS.below) ?_;clear hS;intro w hS)|(refine Stp.go stp_list F1 F1 (r_eqPN F1 F1 Tryz.underlying30) ?_;refine F2 ?_)|(refine Stp.go stp_list F1 F1 (r_eqPN F1 F1 Tryz.underlying83) ?_;refine F2 ?_))|(refine Zg ?_;go_step)|fail)
 exact M9 (n:=128) Tryz.results6 E7 (.inl rfl) _ _ _ _ rfl rfl (hS.blk 0 rfl) D4 (⟨rfl,hS.below⟩)
theorem tgt_block(hrd:RdCel rd)(hn:n<=3)(h:Tgt rd rdp w1 C n tick T w0){t:Nat}(ht:t<n)(u:Int)(hu:u=0\/u=2):Calls Tryz.prog 6 #[.pointer (some ⟨T,0,none⟩),.int .i64 (t:Int),.int .i64 u,.int .i64 0] w0 fun e w'=>e=.returned (if u=0 then okR (zs 128) else badR 1)/\Below w0.heap.size w0 w':=by
 obtain⟨g,TA,CS,X,Q,B,su,co,Lx,nn,D,sv,mv,dv,rv,hCS,hD,hten,_⟩:=h
 have hTb:=own_dk.blk 0 hD rfl
 have hAb:=own_dk.blk 1 hD rfl
 obtain⟨hX,ca,V,b1,kq,ct,hv,lv,kv,M,tv,U,c,m1,m2,m3,m4,hI⟩:=hten t ht
 have hat:=fun w (h:Below w0.heap.size w0 w)=>at_in E9 ((h.block T (G1 hTb)).trans hTb) ((h.block TA (G1 hAb)).trans hAb) ht hX (w0:=w)
 have hXb:=own_dk.mem hD (A3l _ (A3l _ m1))
 have hbr:=fun w (h:Below w0.heap.size w0 w)=>xbroken_in ((h.block (X t) (G1 hXb)).trans hXb) rfl (w0:=w)
 have c1:(xC ca V (t:Int) (C.seeds.getD t 0) 4 (B t) (Q t) (nob5++nob5))[1]?=some (.pointer (some ⟨V,0,none⟩)):=rfl
 have hVm:=A3l (T,tgC g.P C sv mv dv (.slice (some ⟨TA,0,none⟩) n n) rv tick,80) (A3l (TA,CS,83) m3)
 have hVb:=own_dk.mem hD hVm
 have hlim:=hD.ok.1
 have hrd2:∀w,Below w0.heap.size w0 w->Calls Tryz.prog 32 #[.pointer (some ⟨V,0,none⟩),.int .i64 u,.int .i64 0] w fun e w'=>e=.returned (if u=0 then okR (zs 128) else badR 1)/\Below w.heap.size w w':=fun w hb=>by
  rcases hu with rfl|rfl
  ·exact vread_blank hrd (hD.start hb) hI.mlen hVm hI.fit ((m4 0 E9).mono (fun x hx=>A3l _ (A3l _ hx))) (hI.roots 0 E9)
  ·have vd:=vC_737 (P:=g.P) (cn:=(t:Int)) (bs:=((117*t:Nat):Int)) (h:=hv) (l:=lv) (k:=kv) (ct:=ct) (t0:=tv 0) (t1:=tv 1) (dn:=false) hI.mlen
   exact vread_range (fun w2 h2=>gone_any vd w2 ((h2.block V (G1 ((hb.block V (G1 hVb)).trans hVb))).trans ((hb.block V (G1 hVb)).trans hVb))) 2 0 E9
 have sZ:csz (bvs (zs 128))=128:=by rw[F3,zs_len]
 unfold okR badR at *
 obtain⟨RV,e1,hRV⟩:∃RV e1,(if u=0 then (.tuple #[.agg (bvs (zs 128)),.nilIface]:Value) else .tuple #[.agg (bvs (zs 128)),.iface 48 (.int .i64 1)])=.tuple #[RV,e1]/\RV=.agg (bvs (zs 128)):=by
  rcases hu with rfl|rfl
  ·exact⟨_,_,rfl,rfl⟩
  ·exact⟨_,_,rfl,rfl⟩
 rw[hRV.1] at hrd2 |-
 obtain⟨_,rfl⟩:=hRV
 have hS:=St.start w0
 go_enter Tryz.func6,Tryz.ntmps6
 repeat' (first|refine Zbsm ?_|refine Zvs ?_|(refine Zks ?_;clear hS;intro b w hS)|(refine Ztsm ?_;clear hS;intro w hS)|(refine Zll ?_;first|(refine g_calls hS (hat _ hS.below) ?_;clear hS;intro w hS)|(refine g_calls hS (hbr _ hS.below) ?_;clear hS;intro w hS)|(refine g_calls hS (hrd2 _ hS.below) ?_;clear hS;intro w hS)|(refine Stp.go stp_list F1 F1 (r_eqPN F1 F1 Tryz.underlying30) ?_;refine F2 ?_)|(refine Stp.go stp_list F1 F1 (r_eqPN F1 F1 Tryz.underlying83) ?_;refine F2 ?_))|(refine Zg ?_;go_step)|fail)
 exact M9 (n:=128) Tryz.results6 E7 (.inl rfl) _ _ _ _ rfl rfl (hS.blk 0 rfl) D4 (⟨rfl,hS.below⟩)
end
end
end Go.Proofs.YtlfbfbbdpcihfaaGreat
