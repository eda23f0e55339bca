/-
  Laws that the claims of this seat use, of several texts in one. No condition of their own.
-/
import Derived.Test.YtggbbafanhceaaaGreatRRJ17
set_option maxRecDepth 100000
set_option maxHeartbeats 8000000
set_option linter.all false
namespace Go.Proofs.YtggbbafanhceaaaGreatRR
section
open Go.ChangeShapes Go.WideShapes Go.ChangeAt Go.RowKit
attribute [local irreducible] wpList wpListIn Oper.quietAt wpM
section
attribute [local irreducible] tagL
theorem rdSound_t(l:List Pt)(hl:l.length≤1000)(hs:soundP l)(v:Value)(w0:World)(hv:PutsAt w0 v l):Calls Tryz.prog 92 #[v] w0 fun e w'=>e=.returned (.bool true)∧Below w0.heap.size w0 w':=by
 refine(rdSound_any l hl v w0 hv).mono ?_
 rintro e w' ⟨b,rfl,h,hB⟩
 exact⟨by rw[h.2 hs],hB⟩
theorem rdSound_f(l:List Pt)(hl:l.length≤1000)(hs:¬soundP l)(v:Value)(w0:World)(hv:PutsAt w0 v l):Calls Tryz.prog 92 #[v] w0 fun e w'=>e=.returned (.bool false)∧Below w0.heap.size w0 w':=by
 refine(rdSound_any l hl v w0 hv).mono ?_
 rintro e w' ⟨b,rfl,h,hB⟩
 cases b with
 | false=>exact⟨rfl,hB⟩
 | true=>exact absurd (h.1 rfl) hs
def encL(key:List UInt8)(n:Int)(l:List Pt):List UInt8:=firstC n l++(tagC key (firstC n l) l++bodyL l)
theorem V9(n:Int){l:List Pt}(h:l.length≤56):(firstC n l).length=128:=by unfold firstC;rw[A4s,zs_len,firstT_len];omega
theorem encode_bad(n:Int)(l:List Pt)(hl:l.length≤1000)(hbad:n<0∨¬soundP l)(kv v:Value)(w0:World)(hv:PutsAt w0 v l) :
  Calls Tryz.prog 54 #[kv,.int .i64 n,v] w0 fun e w'=>e=.returned (.tuple #[.slice none 0 0,.iface 54 (.int .i64 2)])∧Below w0.heap.size w0 w':=by
 have hS:=St.start w0
 by_cases hn:n<0
 ·go_enter Tryz.func54,Tryz.ntmps54
  repeat' (first|refine Zasm ?_|(refine Zks ?_;clear hS;intro b w hS)|(refine Ztsm ?_;clear hS;intro w hS)|(refine Zc ?_ ?_<;>intro hc)|(refine Zg ?_;first|go_step|go_step3|refine Zr ?_)|fail)
  go_ret2
  exact⟨rfl,hS.below⟩
 ·have hs:¬soundP l:=by
   rcases hbad with h|h
   ·exact absurd h hn
   ·exact h
  have hsd:=fun w hv=>rdSound_f l hl hs v w hv
  go_enter Tryz.func54,Tryz.ntmps54
  repeat' (first|refine Zasm ?_|(refine Zks ?_;clear hS;intro b w hS)|(refine Ztsm ?_;clear hS;intro w hS)|(refine Zc ?_ ?_<;>intro hc)|((with_reducible refine cons_list ?_);first|(refine J2 I3 own_st hS (hsd _ (hv.below hS.below)) ?_;clear hS;intro w hS;refine I4 ?_))|(refine Zg ?_;first|go_step|go_step3|refine Zr ?_)|fail)
  go_ret2
  exact⟨rfl,hS.below⟩
theorem encode_good(key:List UInt8)(hk:key.length≤1000000)(n:Int)(hn:0≤n)(l:List Pt)(hs:soundP l)(kv v:Value)(w0:World)(hkv:BytesAt w0 kv key)(hv:PutsAt w0 v l) :
  Calls Tryz.prog 54 #[kv,.int .i64 n,v] w0 fun e w'=>∃g c sp,e=.returned (.tuple #[.slice (some ⟨g,0,none⟩) (l.length+2) c,.nilIface])∧l.length+2≤c∧c≤maxLen∧sp.length=(c - (l.length+2))*128∧w0.heap.size≤g∧blk w' g=some (.cells ((encL key n l).map bv++sp).toArray 39 (0,0))∧Below w0.heap.size w0 w':=by
 have hS:=St.start w0
 have h56:=hs.2.2
 have hn':¬n<0:=by omega
 have hsd:=fun w hv=>rdSound_t l H9 hs v w hv
 have hfi:=fun w hv=>first_any n l hs v w hv
 have lF:=V9 n h56
 have hE:encL key n l=firstC n l++(tagC key (firstC n l) l++bodyL l):=rfl
 have htg:=fun w h1 h2=>rdTag_any key (firstC n l) hk lF l H9 kv v w h1 h2
 have lT:=A1F key (firstC n l) l
 obtain⟨Y,hY⟩:∃Y,firstC n l=Y:=⟨_,rfl⟩
 rw[hY] at hfi lF hE htg lT
 obtain⟨T,hT⟩:∃T,tagC key Y l=T:=⟨_,rfl⟩
 rw[hT] at hE htg lT
 clear hY hT
 have sY:csz (bvs Y)=128:=by rw[I5,lF]
 have sT:csz (bvs T)=128:=by rw[I5,lT]
 have s128:csz (bvs (zs 128))=128:=by rw[I5,zs_len]
 obtain⟨ho,p,c,rfl,hc,hp0,hcell⟩:=id hv
 obtain⟨q,hq⟩:∃q,l.length=q:=⟨_,rfl⟩
 rw[hq] at hc h56 hv hsd hfi htg ⊢
 go_enter Tryz.func54,Tryz.ntmps54
 repeat' (first|refine Zasm ?_|(refine Zks ?_;clear hS;intro b w hS)|(refine Ztsm ?_;clear hS;intro w hS)|(refine Zc ?_ ?_<;>intro hc)|((with_reducible refine cons_list ?_);first|(refine J2 I3 own_st hS (hsd _ (hv.below hS.below)) ?_;clear hS;intro w hS;refine I4 ?_)|(refine J2 I3 own_st hS (hfi _ (hv.below hS.below)) ?_;clear hS;intro w hS;refine I4 ?_))|(refine Zg ?_;first|go_step|go_step3|refine Zr ?_)|fail)
 refine I8 5 H6 H6 ?_
 dsimp only[List.take,List.drop]
 iterate 5 (first|(refine Zw ?_;apply Exists.intro;refine⟨fun pB w' hw' hF=>?_,?_⟩;(focus (have hZ:=(own_st).call hS hw';first|exact(L5 (htg _ (hkv.below hZ.below) (hv.below hZ.below)))));refine Zo ?_)|refine ZQm ?_|refine ZQs ?_|refine ZQa ?_|refine ZQz ?_)
 refine Zn own_st hS ?_
 clear hS
 intro pB w hS
 try dsimp only
 refine Z3 I3 own_st hS ?_ (h1:=by
  intro v hv
  simp only[A4R,A5e,or_false] at hv
  rcases hv with rfl|rfl
  ·show (bvs Y).size=128
   rw[←L6];exact sY
  ·show (bvs T).size=128
   rw[←L6];exact sT)
 clear hS
 intro b w hS
 refine I4 ?_
 have e0:((bvs Y).toList++(bvs T).toList).toArray=((Y++(T++bodyL (l.take 0))).map bv++[]).toArray:=by simp[bvs,bodyL]
 have s2:csz (hdV 0 (zs 128))=129:=by rw[L3,zs_len]
 repeat' (first|refine Zasm ?_|(refine Zks ?_;clear hS;intro b w hS)|(refine Ztsm ?_;clear hS;intro w hS)|(refine Zc ?_ ?_<;>intro hc)|(refine Zg ?_;first|go_step|go_step3|refine Zr ?_)|fail)
 go_loopw [10,12,38] (fun u10 u12 u38 wr=>∃(k g c:Nat)(sp:List Value),k≤q∧u38=.int .i64 (k:Int)∧u10=.slice (some ⟨g,0,none⟩) (k+2) c∧k+2≤c∧c≤maxLen∧sp.length=(c - (k+2))*128∧St w0 wr [(g,((Y++(T++bodyL (l.take k))).map bv++sp).toArray,39)]) (fun _ _ u38 _=>q - (intOf u38).toNat)
 case atStart=>exact⟨0,b,2,[],by omega,rfl,rfl,by omega,by decide,rfl,by rw[←e0];exact hS.take 1⟩
 case round =>
  clear hS
  obtain⟨k,g,c2,sp,hk2,rfl,rfl,k1,k2,k3,hS⟩:=hrel
  have k2':=k2
  unfold maxLen at k2'
  by_cases hlt:k<q
  ·obtain⟨⟨a,C⟩,hx⟩:∃x,l[k]?=some x:=⟨_,A4C H9⟩
   obtain⟨b0,o0,cs,ty,fr,rfl,hb,hcc⟩:=hcell (by intro e;rw[e] at hq;simp at hq;omega)
   obtain⟨lC,d1,d2,d3,d4⟩:=put_cells ho hcc hx
   have s1:csz (hdV a C)=129:=by rw[L3,lC]
   have sC:csz (bvs C)=128:=by rw[I5,lC]
   have hcut:cut (hdV a C) 1 128=bvs C:=by
    have:=hd_cut a (B:=C) (o:=0) (m:=128) H9
    rwa [A5V,A4E H9] at this
   have hbd:bodyL (l.take (k+1))=bodyL (l.take k)++C:=by
    unfold bodyL
    rw[A6g,hx,List.flatMap_append]
    simp
   have hlk:(Y++(T++bodyL (l.take k))).length=(k+2)*128:=by
    rw[A4s,A4s,lF,lT,A2Z (fun x hx'=>ho x (A6H hx')),A4x];omega
   obtain⟨Z,hZ⟩:∃Z,Y++(T++bodyL (l.take k))=Z:=⟨_,rfl⟩
   rw[hZ] at hS hlk
   have hZ2:Z++C=Y++(T++bodyL (l.take (k+1))):=by rw[hbd,←hZ];simp only[A4H]
   repeat' (first|((with_reducible refine cons_list ?_);first|(refine K0 I3 own_st hS ?_ (hv:=O5 _ _);clear hS;intro w hS;refine I4 ?_)|(refine Z3 I3 own_st hS ?_ (h1:=by intro v hv;simp only[A4R,A5e,or_false] at hv;subst hv;show (bvs C).size=128;rw[←L6];exact sC);clear hS;intro b w hS;refine I4 ?_))|refine Zbsm ?_|((with_reducible refine cons_list ?_);first|((first|refine J6 I3 own_st hS ?_ (hv:=by rw[A4r];first|exact d2|exact hcut)|refine J0 I3 E9 ?_ (hv:=by first|rfl|exact bvs_getLA|(rw[A4r];first|exact d2|exact hcut))|refine J5 I3 own_st hS ?_ (hv:=by first|(first|exact d2|exact hcut)|rfl)|refine I9 I3 E9 ?_ (hv:=by first|exact J1 _ _ A8|(first|exact d2|exact hcut)|rfl)|refine J4 I3 ?_ (hv':=by first|exact bvs_getLA|(rw[A4r];first|exact d2|exact hcut)))<;>refine I4 ?_))|(refine Zks ?_;clear hS;intro b w hS)|(refine Ztsm ?_;clear hS;intro w hS)|(refine Zc ?_ ?_<;>intro hc)|(refine Zg ?_;first|go_step|go_step3|refine Zr ?_)|fail)
   refine V7 I3 own_st hS I2 I2 I2 I2 G7 (by exact at_ 2 rfl) (olds:=Z.map bv) (spare:=sp) I2 (by rw[A4D,hlk]) k1 k3 (xs:=C.map bv) (A0k (hS.blk 0 rfl) (fun j v h=>by rw[A4G];exact h)) (by rw[A4D,lC]) (A2h C) G0 (nm:=k+1+2) H9 ?_
   clear hS
   intro b' c' sp' w' q1 q2 q3 hS
   rw[←A4Q,hZ2] at hS
   replace hS:=hS.take 1
   refine I4 ?_
   repeat' (first|refine Zasm ?_|(refine Zks ?_;clear hS;intro b w hS)|(refine Ztsm ?_;clear hS;intro w hS)|(refine Zc ?_ ?_<;>intro hc)|(refine Zg ?_;first|go_step|go_step3|refine Zr ?_)|fail)
   go_roundw
   case rel=>exact⟨k+1,b',c',sp',by omega,by push_cast;rfl,rfl,q1,q2,q3,hS⟩
   case measure=>first|(simp[intOf];done)|(simp[intOf];omega)
  ·obtain rfl:k=q:=by omega
   have htl:l.take k=l:=A4E H9
   rw[htl] at hS
   repeat' (first|refine Zasm ?_|(refine Zks ?_;clear hS;intro b w hS)|(refine Ztsm ?_;clear hS;intro w hS)|(refine Zc ?_ ?_<;>intro hc)|(refine Zg ?_;first|go_step|go_step3|refine Zr ?_)|fail)
   go_ret2
   exact⟨g,c2,sp,rfl,k1,k2,k3,hS.low 0 rfl,by rw[hE];exact hS.blk 0 rfl,hS.below⟩
end
section
end
section
attribute [local irreducible] shaL pieceL
end
section
end
section
attribute [local irreducible] tagL
end
section
def CellsAt(w:World)(v:Value)(X:List UInt8)(k:Nat):Prop:=X.length=128*k∧∃p c,v=.slice p k c∧k≤c∧(p=none→c=0)∧(0<k→∃b o cs t fr,p=some ⟨b,o,none⟩∧blk w b=some (.cells cs t fr)∧∀j x,X[j]?=some x→cs[o+j]?=some (bv x))
theorem CellsAt.below{w w':World}{v:Value}{X:List UInt8}{k:Nat}(h:CellsAt w v X k)(hb:Below w.heap.size w w'):CellsAt w' v X k:=by
 obtain⟨h0,p,c,h1,h2,h3,h4⟩:=h
 refine⟨h0,p,c,h1,h2,h3,fun hne=>?_⟩
 obtain⟨b,o,cs,t,fr,h5,h6,h7⟩:=h4 hne
 exact⟨b,o,cs,t,fr,h5,(hb.block b (J8 h6)).trans h6,h7⟩
def celX(X:List UInt8)(i:Nat):List UInt8:=(X.drop (128*i)).take 128
theorem celX_len{X:List UInt8}{i k:Nat}(h:X.length=128*k)(hi:i<k):(celX X i).length=128:=by unfold celX;rw[A4x,A4N];omega
theorem celX_next(X:List UInt8)(i:Nat):X.take (128*(i+1))=X.take (128*i)++celX X i:=by
 unfold celX;rw[show 128*(i+1)=128*i+128 by omega,A6N]
theorem celX_cut{cs:Array Value}{o i k:Nat}{X:List UInt8}(h:X.length=128*k)(hi:i<k)(hc:∀j x,X[j]?=some x→cs[o+j]?=some (bv x)):o+i*128+128≤csz cs∧cut cs (o+i*128) 128=bvs (celX X i)∧∀j,j<128→cs[o+i*128+j]?=some (.int .u8 (((celX X i).getD j 0).toNat:Int)):=by
 have hat:∀j x,(celX X i)[j]?=some x→cs[o+i*128+j]?=some (bv x):=fun j x hj=>by
  have hjl:=(A4z.1 hj).1
  rw[celX_len h hi] at hjl
  unfold celX at hj
  rw[A5m,if_pos hjl,A5I] at hj
  have:=hc _ _ hj
  rw[show o+i*128+j=o+(128*i+j) by omega]
  exact this
 obtain⟨h1,h2⟩:=cut_of_cells (celX_len h hi) H9 hat
 refine⟨h1,h2,fun j hj=>?_⟩
 have hl:=celX_len h hi
 rw[hat j ((celX X i)[j]'H9) (A4C H9),A4T,A4C H9]
 rfl
end
end
section
open Go.ChangeShapes Go.WideShapes Go.ChangeAt Go.RowKit
def owL(M:List UInt8)(o:Nat)(l:List UInt8):List UInt8:=M.take o++(l++M.drop (o+l.length))
def sl(M:List UInt8)(o n:Nat):List UInt8:=(M.drop o).take n
theorem sl_len{M:List UInt8}{o n:Nat}(h:o+n≤M.length):(sl M o n).length=n:=by unfold sl;rw[A4x,A4N];omega
theorem O0{M l:List UInt8}{o:Nat}(h:o+l.length≤M.length):(owL M o l).length=M.length:=by
 unfold owL;rw[A4s,A4s,A4x,A4N];omega
theorem owL_at{M l:List UInt8}{o:Nat}(h:o+l.length≤M.length)(k:Nat):(owL M o l)[k]?=if o≤k∧k<o+l.length then l[k - o]? else M[k]?:=by
 unfold owL
 by_cases h1:k<o
 ·rw[A4P F2,A5m,if_pos h1,if_neg H9]
 ·rw[A4V F2,A4x,A6c H9]
  by_cases h2:k<o+l.length
  ·rw[A4P H9,if_pos H9]
  ·rw[A4V H9,if_neg H9,A5I]
   congr 1;omega
theorem A1G(M:List UInt8)(o n k:Nat):(sl M o n)[k]?=if k<n then M[o+k]? else none:=by
 unfold sl
 by_cases h:k<n
 ·rw[if_pos h,A5m,if_pos h,A5I]
 ·rw[if_neg h]
  exact A5D F2
theorem A1q{M l:List UInt8}{o n:Nat}(hl:l.length=n)(h:o+n≤M.length):sl (owL M o l) o n=l:=by
 apply A6f
 intro k
 rw[A1G,owL_at H9]
 by_cases hk:k<n
 ·rw[if_pos hk,if_pos H9]
  congr 1;omega
 ·rw[if_neg hk,A5D H9]
theorem P9{M l:List UInt8}{o p n:Nat}(h:o+l.length≤M.length)(hd:p+n≤o∨o+l.length≤p):sl (owL M o l) p n=sl M p n:=by
 apply A6f
 intro k
 rw[A1G,A1G]
 by_cases hk:k<n
 ·rw[if_pos hk,if_pos hk,owL_at h,if_neg H9]
 ·rw[if_neg hk,if_neg hk]
theorem Z0{M:List UInt8}{o n p m:Nat}(h:p+m≤n):sl (sl M o n) p m=sl M (o+p) m:=by
 unfold sl
 rw[List.drop_take,List.take_take,A5Y,A6c H9]
theorem sl_all{M:List UInt8}{n:Nat}(h:M.length=n):sl M 0 n=M:=by unfold sl;rw[A5V,A4E H9]
theorem Q5(X:List UInt8)(i:Nat):celX X i=sl X (128*i) 128:=rfl
def setC(s:List UInt8)(i:Nat)(C:List UInt8):List UInt8:=owL s (128*i) C
theorem setC_len{s C:List UInt8}{i N:Nat}(hs:s.length=128*N)(hi:i<N)(hC:C.length=128):(setC s i C).length=128*N:=by unfold setC;rw[O0 H9,hs]
theorem celX_setC{s C:List UInt8}{i j N:Nat}(hs:s.length=128*N)(hi:i<N)(hC:C.length=128):celX (setC s i C) j=if j=i then C else celX s j:=by
 unfold setC
 rw[Q5,Q5]
 by_cases h:j=i
 ·subst h;rw[if_pos rfl];exact A1q hC H9
 ·rw[if_neg h];exact P9 H9 H9
theorem A3f{s t:List UInt8}{N:Nat}(hs:s.length=128*N)(ht:t.length=128*N)(h:∀i,i<N→celX s i=celX t i):s=t:=by
 apply A6f
 intro k
 by_cases hk:k<128*N
 ·have h1:=congrArg (·[k % 128]?) (h (k / 128) H9)
  simp only[Q5,A1G] at h1
  rw[if_pos H9,if_pos H9,show 128*(k / 128)+k % 128=k by omega] at h1
  exact h1
 ·rw[A5D H9,A5D H9]
def inP(N:Nat)(l:List Pt):Prop:=∀x∈l,0≤x.1∧x.1<(N:Int)∧x.2.length=128
def applyP(s:List UInt8)(l:List Pt):List UInt8:=l.foldl (fun s x=>setC s x.1.toNat x.2) s
theorem applyP_snoc(s:List UInt8)(l:List Pt)(x:Pt):applyP s (l++[x])=setC (applyP s l) x.1.toNat x.2:=by unfold applyP;rw[List.foldl_append];rfl
theorem inP_snoc{N:Nat}{l:List Pt}{x:Pt}:inP N (l++[x])↔inP N l∧(0≤x.1∧x.1<(N:Int)∧x.2.length=128):=by
 unfold inP
 constructor
 ·exact fun h=>⟨fun y hy=>h y (A5Q _ hy),h x I1⟩
 ·rintro⟨h1,h2⟩ y hy
  rcases A5j.1 hy with hy|hy
  ·exact h1 y hy
  ·rw[A5F] at hy;subst hy;exact h2
theorem rev_ind{α:Type}{p:List α→Prop}(h0:p [])(h1:∀l x,p l→p (l++[x])):∀l,p l:=by
 intro l
 have:∀r:List α,p r.reverse:=by
  intro r
  induction r with
  | nil=>exact h0
  | cons x r ih=>rw[List.reverse_cons];exact h1 _ _ ih
 have h:=this l.reverse
 rwa [List.reverse_reverse] at h
theorem applyP_all{s:List UInt8}{N:Nat}(hs:s.length=128*N)(l:List Pt):inP N l→(applyP s l).length=128*N∧∀i:Nat,i<N→celX (applyP s l) i=((lastP l (i:Int)).map (·.2)).getD (celX s i):=by
 refine rev_ind (p:=fun l=>inP N l→(applyP s l).length=128*N∧∀i:Nat,i<N→celX (applyP s l) i=((lastP l (i:Int)).map (·.2)).getD (celX s i)) (fun _=>⟨hs,fun i _=>rfl⟩) (fun l x ih hin=>?_) l
 obtain⟨h1,h2,h3,h4⟩:=inP_snoc.1 hin
 obtain⟨k1,k2⟩:=ih h1
 rw[applyP_snoc]
 refine⟨setC_len k1 H9 h4,fun i hi=>?_⟩
 rw[celX_setC k1 H9 h4,O4]
 by_cases he:x.1=(i:Int)
 ·rw[if_pos H9,if_pos he];rfl
 ·rw[if_neg H9,if_neg he];exact k2 i hi
theorem Y2{s:List UInt8}{N:Nat}(hs:s.length=128*N){l:List Pt}(h:inP N l):(applyP s l).length=128*N:=(applyP_all hs l h).1
theorem A0B{s:List UInt8}{N:Nat}(hs:s.length=128*N){l:List Pt}(h:inP N l){i:Nat}(hi:i<N):celX (applyP s l) i=((lastP l (i:Int)).map (·.2)).getD (celX s i):=(applyP_all hs l h).2 i hi
def shiftP(b:Int)(l:List Pt):List Pt:=l.map fun x=>(b+x.1,x.2)
theorem shiftP_len(b:Int)(l:List Pt):(shiftP b l).length=l.length:=by unfold shiftP;rw[A4D]
theorem lastP_shift(b a:Int)(l:List Pt):lastP (shiftP b l) (b+a)=(lastP l a).map fun x=>(b+x.1,x.2):=by
 refine rev_ind (p:=fun l=>lastP (shiftP b l) (b+a)=(lastP l a).map fun x=>(b+x.1,x.2)) rfl (fun l x ih=>?_) l
 have e:shiftP b (l++[x])=shiftP b l++[(b+x.1,x.2)]:=by unfold shiftP;rw[A4Q];rfl
 rw[e,O4,O4,ih]
 dsimp only
 by_cases h:x.1=a
 ·rw[if_pos h,if_pos H9];rfl
 ·rw[if_neg h,if_neg H9]
theorem Q8{l:List Pt}{a:Int}(h:∀x∈l,x.1≠a):lastP l a=none:=by
 cases hl:lastP l a with
 | none=>rfl
 | some x=>exact absurd (P1 hl).1 (h x (P1 hl).2)
theorem lastP_merge{l R:List Pt}(h:IsMerge l R)(a:Int):lastP R a=lastP l a:=by
 cases hl:lastP l a with
 | some x =>
  have hx:=(P1 hl).1
  have hR:x∈R:=(h.2 x).2 (by rw[hx];exact hl)
  cases hr:lastP R a with
  | none =>
   obtain⟨y,hy⟩:=lastP_mem hR
   rw[hx,hr] at hy;cases hy
  | some y =>
   have hy:=P1 hr
   have h2:=(h.2 y).1 hy.2
   rw[hy.1,hl] at h2
   exact h2.symm
 | none =>
  refine Q8 fun y hy e=>?_
  have h2:=(h.2 y).1 hy
  rw[e,hl] at h2;cases h2
end
section
open Go.ChangeShapes Go.WideShapes Go.ChangeAt Go.RowKit
attribute [local irreducible] wpList wpListIn Oper.quietAt wpM
section
def numR(C:List UInt8)(o:Nat):Nat:=beN ((C.drop o).take 2)
def cntR(C:List UInt8):Int:=wrap64 (beN (C.take 8):Int)
theorem beN_two(l:List UInt8)(h:l.length≤2):beN l<65536:=by
 have h1:=beN_lt l
 have h2:256 ^ l.length≤256 ^ 2:=Nat.pow_le_pow_right H9 h
 have h3:(256:Nat) ^ 2=65536:=by decide +kernel
 rw[h3] at h2
 exact A6h h1 h2
theorem numR_lt(C:List UInt8)(o:Nat):numR C o<65536:=beN_two _ F2
theorem r_convR{P:Program}{o:Oper}{a:Act}{w:World}{s t:TypeId}{x:Operand}{k ks:IntKind}{n q:Int}(hop:o.op=.convert s t x)(hx:evO a x=some (.int k n))(hs:IntT P s ks)(ht:IntT P t .i64)(hq:wrap64 n=q):(execOp a.eval o).run P w=.ok (.value (.int .i64 q)) w:=by
 subst hq
 unfold execOp;rw[hop]
 simp only[I6 hx,convert,Sem.run_bind,run_underlying hs.is,run_underlying ht.is,Result.andThen_ok,Conv.intToInt]
 rw[show IntKind.i64.wrap n=wrap64 n by rw[IntKind.wrap_i64];unfold wrap64;omega]
 rfl
theorem big_quiet(v:Value)(l:List UInt8)(w:World)(hv:BytesAt w v l)(hl:l.length≤8):Calls Tryz.prog 112 #[v] w fun e w'=>e=.returned (.int .u64 (beN l))∧Below w.heap.size w w' :=
 (A3m v l w hv hl).mono (fun _ _ h=>⟨h.1,h.2 ▸ Below.refl _ _⟩)
theorem number_any(C:List UInt8)(hC:C.length=128)(o:Nat)(ho:o≤126)(w0:World) :
  Calls Tryz.prog 153 #[.agg (bvs C),.int .i64 (o:Int)] w0 fun e w'=>e=.returned (.int .i64 (numR C o:Int))∧Below w0.heap.size w0 w':=by
 have hS:=St.start w0
 have sC:csz (bvs C)=128:=by rw[I5,hC]
 have hlt:=numR_lt C o
 have hN:beN ((C.drop o).take 2)=numR C o:=rfl
 have l2:((C.drop o).take 2).length=2:=by rw[A4x,A4N];omega
 have hbg:=fun w b (hv:BytesAt w (.slice (some ⟨b,o,none⟩) 2 (128 - o)) ((C.drop o).take 2))=>big_quiet _ ((C.drop o).take 2) w hv H9
 obtain⟨N,hN2⟩:∃N,numR C o=N:=⟨_,rfl⟩
 rw[hN] at hbg
 rw[hN2] at hbg hlt ⊢
 go_enter Tryz.func153,Tryz.ntmps153
 repeat' (first|refine Zasm ?_|(refine Zks ?_;clear hS;intro b w hS)|(refine Ztsm ?_;clear hS;intro w hS)|(refine Zc ?_ ?_<;>intro hc)|(refine Zg ?_;first|go_step|go_step3|refine Zr ?_)|fail)
 rw[show ((o:Int)+2).toNat - o=2 by omega]
 repeat' (first|refine Zasm ?_|(refine Zks ?_;clear hS;intro b w hS)|(refine Ztsm ?_;clear hS;intro w hS)|(refine Zc ?_ ?_<;>intro hc)|((with_reducible refine cons_list ?_);first|(refine J2 I3 own_st hS (hbg _ _ (T6 (hS.blk 0 rfl) H9 H9)) ?_;clear hS;intro w hS;refine I4 ?_)|(refine Stp.go I3 I2 I2 (r_convR I2 I2 G7 G7 (wrap_small2 hlt)) ?_;refine I4 ?_))|(refine Zg ?_;first|go_step|go_step3|refine Zr ?_)|fail)
 go_ret
 exact⟨rfl,hS.below⟩
end
section
def OwL{α:Type}(f:α→List Value)(sz:Nat)(t:TypeId)(l:List α)(v:Value)(Lr:List Blk):Prop:=(v=.slice none 0 0∧l=[]∧Lr=[]) ∨
 ∃g c sp,v=.slice (some ⟨g,0,none⟩) l.length c∧l.length≤c∧c≤maxLen∧sp.length=(c - l.length)*sz∧Lr=[(g,(l.flatMap f++sp).toArray,t)]
def OwnL{α:Type}(f:α→List Value)(sz:Nat)(t:TypeId)(B:Nat)(w:World)(v:Value)(l:List α):Prop:=(v=.slice none 0 0∧l=[]) ∨
 ∃g c sp,v=.slice (some ⟨g,0,none⟩) l.length c∧l.length≤c∧c≤maxLen∧sp.length=(c - l.length)*sz∧B≤g∧blk w g=some (.cells (l.flatMap f++sp).toArray t (0,0))
def OwAt{α:Type}(f:α→List Value)(w:World)(v:Value)(l:List α):Prop:=∃p c,v=.slice p l.length c∧l.length≤c∧(p=none→c=0)∧(l≠[]→∃b o cs t fr,p=some ⟨b,o,none⟩∧blk w b=some (.cells cs t fr)∧∀j x,(l.flatMap f)[j]?=some x→cs[o+j]?=some x)
section
variable{α:Type}{f:α→List Value}{sz:Nat}{t:TypeId}{l:List α}{v:Value}{Lr:List Blk}
theorem OwL.slice(h:OwL f sz t l v Lr):∃p c,v=.slice p l.length c:=by
 rcases h with⟨rfl,rfl,_⟩|⟨g,c,sp,rfl,_⟩
 ·exact⟨_,_,rfl⟩
 ·exact⟨_,_,rfl⟩
theorem OwnL.slice{B:Nat}{w:World}(h:OwnL f sz t B w v l):∃p c,v=.slice p l.length c:=by
 rcases h with⟨rfl,rfl⟩|⟨g,c,sp,rfl,_⟩
 ·exact⟨_,_,rfl⟩
 ·exact⟨_,_,rfl⟩
theorem OwL.own{w0 w:World}{L:List Blk}(h:OwL f sz t l v Lr)(hS:St w0 w L)(hm:∀x∈Lr,x∈L):OwnL f sz t w0.heap.size w v l:=by
 rcases h with⟨rfl,rfl,rfl⟩|⟨g,c,sp,rfl,h1,h2,h3,rfl⟩
 ·exact .inl ⟨rfl,rfl⟩
 ·have:=hS.2.1 _ (hm _ (A4w ..))
  exact .inr ⟨g,c,sp,rfl,h1,h2,h3,this.1,this.2⟩
theorem OwAt.nil(w:World):OwAt f w (.slice none 0 0) []:=⟨none,0,rfl,A4F _,fun _=>rfl,fun h=>absurd rfl h⟩
theorem OwAt.blk{w:World}{g c n:Nat}{sp:List Value}{t:TypeId}{fr:Nat × Nat}(hn:n=l.length)(hc:n≤c)(hb:blk w g=some (.cells (l.flatMap f++sp).toArray t fr)):OwAt f w (.slice (some ⟨g,0,none⟩) n c) l:=by
 subst hn
 exact⟨_,c,rfl,hc,(fun h=>by cases h),fun _=>⟨g,0,_,t,fr,rfl,hb,fun j x hj=>by
  rw[A4G,A4y,A4P (A4z.1 hj).1,hj]⟩⟩
theorem OwL.at{B:Nat}{H:World→List Blk→Prop}(hH:Own B H){w:World}{L:List Blk}(h:OwL f sz t l v Lr)(hS:H w L)(hm:∀x∈Lr,x∈L):OwAt f w v l:=by
 rcases h with⟨rfl,rfl,rfl⟩|⟨g,c,sp,rfl,h1,h2,h3,rfl⟩
 ·exact OwAt.nil w
 ·obtain⟨i,hi⟩:=List.getElem?_of_mem (hm _ (A4w ..))
  exact OwAt.blk rfl h1 (hH.blk i hS hi)
theorem owl_len(hf:∀a∈l,(f a).length=sz):(l.flatMap f).length=l.length*sz:=by
 induction l with
 | nil=>simp
 | cons a l ih =>
  rw[A5E,A4s,hf a (A4w ..),ih (fun b hb=>hf b (A4B _ hb)),A4J,Nat.add_mul]
  omega
theorem owl_snoc(l:List α)(x:α):(l++[x]).flatMap f=l.flatMap f++f x:=by rw[List.flatMap_append,List.flatMap_singleton]
end
theorem A2e{α:Type}{f:α→List Value}{sz bytes:Nat}{t e:TypeId}{l:List α}{x0:α}{sv:Value}{Lr L:List Blk}{nb:Nat}{x y:Operand}{P:Program}{ops:Array Oper}{W:List Oper→Act→World→Prop}{o:Oper}{rest:List Oper}{a:Act}{w:World}{B:Nat}{H:World→List Blk→Prop}
  (hs:Stp P ops W)(hH:Own B H)(hS:H w ((nb,(f x0).toArray,e)::(Lr++L)))(hR:OwL f sz e l sv Lr)(hw:Region.wanted o (yielded ops a.tmps)=true)(hop:o.op=.call { callee:=.builtin .append,args:=#[x,y],argTypes:=#[t,t] })(hx:evO a x=some sv)(hy:evO a y=some (.slice (some ⟨nb,0,none⟩) 1 1))(hT:SlT P t e sz bytes)
  (hf:∀a∈l,(f a).length=sz)(hfx:(f x0).length=sz)(hone:∀v∈f x0,v.oneCell'=true)(hm:l.length+1≤maxLen∧(l.length+1)*bytes≤140737488355328)
  (hk:∀sv' Lr' w',OwL f sz e (l++[x0]) sv' Lr'→H w' (Lr'++L)→W rest (a.put o.dst sv') w'):W (o::rest) a w:=by
 have hsrc:∀j v,(f x0)[j]?=some v→w.cell? ((⟨nb,0,none⟩:Addr).add j)=some v:=A0k (hH.blk 0 hS rfl) (fun j v h=>by rw[A4G];exact h)
 rcases hR with⟨rfl,rfl,rfl⟩|⟨g,c,sp,rfl,h1,h2,h3,rfl⟩
 ·simp only[A4A] at hS
  refine s_append0 hs hH hS hw hop hx hy hT (xs:=f x0) hsrc (by rw[hfx,A5P]) (by
   obtain⟨q1,q2⟩:=hm
   simp only[A4Z,A4G] at q1 q2
   exact⟨by omega,q1,q2⟩) ?_
  intro by2 cy2 S2 w' hq1 hq2 hq3 hS2
  refine hk _ [(by2,(([]++[x0]).flatMap f++S2).toArray,e)] _ (.inr ⟨by2,cy2,S2,rfl,hq1,hq2,hq3,rfl⟩) ?_
  have hn:=hH.nodup hS2
  rw[show f x0=([]++[x0]).flatMap f by rw[A4A,List.flatMap_singleton]] at hS2
  simp only[A5k,A5q,A4R,not_or] at hn
  refine hH.sub (L':=(by2,(([]++[x0]).flatMap f++S2).toArray,e)::L) hS2 (fun z hz=>?_) ?_
  ·rcases A4R.1 hz with rfl|hz
   ·exact A4w ..
   ·exact A4B _ (A4B _ hz)
  ·simp only[A5k,A5q]
   exact⟨hn.1.2,hn.2.2⟩
 ·simp only[A4K,A4A] at hS
  refine V7 hs hH hS hw hop hx hy hT (by exact at_ 1 rfl) (olds:=l.flatMap f) (spare:=sp) I2 (owl_len hf) h1 h3 (xs:=f x0) hsrc (by rw[hfx,A5P]) hone ⟨hm.1,hm.2,h2⟩ rfl ?_
  intro by2 cy2 S2 w' hq1 hq2 hq3 hS2
  have e1:l.length+1=(l++[x0]).length:=by rw[A4s];rfl
  refine hk _ [(by2,((l++[x0]).flatMap f++S2).toArray,e)] _ (.inr ⟨by2,cy2,S2,by rw[e1],by rw[←e1];exact hq1,hq2,by rw[←e1];exact hq3,rfl⟩) ?_
  have hn:=hH.nodup hS2
  rw[←owl_snoc] at hS2
  simp only[A5i,A5h,A5k,A5q,A4R,not_or] at hn
  refine hH.sub (L':=(by2,((l++[x0]).flatMap f++S2).toArray,e)::L) hS2 (fun z hz=>?_) ?_
  ·rcases A4R.1 hz with rfl|hz
   ·exact A4w ..
   ·exact A4B _ (A4B _ hz)
  ·simp only[A5k,A5q]
   exact⟨hn.1.2,hn.2.2⟩
end
section
def saysR(C:List UInt8):Nat:=if numR C 8≤56 then numR C 8 else 0
theorem saysR_le(C:List UInt8):saysR C≤56:=by unfold saysR;split<;>omega
end
section
def firX(X:List UInt8)(n:Nat):List UInt8:=if 0<n then celX X 0 else zs 128
theorem firX_len{X:List UInt8}{n:Nat}(h:X.length=128*n):(firX X n).length=128:=by
 unfold firX
 split
 ·exact celX_len h H9
 ·exact zs_len 128
theorem putsFn_any(X:List UInt8)(n:Nat)(v:Value)(w0:World)(hv:CellsAt w0 v X n) :
  Calls Tryz.prog 123 #[v] w0 fun e w'=>∃gm gc,e=.returned (.func (.func 152) #[] #[.pointer (some ⟨gm,0,none⟩),.pointer (some ⟨gc,0,none⟩)])∧w0.heap.size≤gm∧w0.heap.size≤gc∧¬gm=gc∧blk w' gm=some (.cells #[.int .i64 (numR (firX X n) 8:Int)] 3 (0,0))∧blk w' gc=some (.cells (bvs (firX X n)) 39 (0,0))∧Below w0.heap.size w0 w':=by
 have hlF:=firX_len hv.1
 obtain⟨hX,p,c,rfl,hc,hp0,hcell⟩:=hv
 have hS:=St.start w0
 have sZ:csz (bvs (zs 128))=128:=by rw[I5,zs_len]
 have l2:(((firX X n).drop 8).take 2).length=2:=by rw[A4x,A4N];omega
 have hbg:=fun w b (hv:BytesAt w (.slice (some ⟨b,8,none⟩) 2 120) (((firX X n).drop 8).take 2))=>big_quiet _ (((firX X n).drop 8).take 2) w hv H9
 have hN:beN (((firX X n).drop 8).take 2)=numR (firX X n) 8:=rfl
 have hlt:=numR_lt (firX X n) 8
 obtain⟨N,hN2⟩:∃N,numR (firX X n) 8=N:=⟨_,rfl⟩
 rw[hN] at hbg
 rw[hN2] at hbg hlt ⊢
 have hbF:∀w b,blk w b=some (.cells (bvs (firX X n)) 39 (0,0))→BytesAt w (.slice (some ⟨b,8,none⟩) 2 120) (((firX X n).drop 8).take 2):=fun w b h=>T6 h H9 H9
 by_cases h0:0<n
 ·obtain⟨b0,o,cs,ty,fr,rfl,hb,hcc⟩:=hcell h0
  obtain⟨c1,c2,c3⟩:=celX_cut hX h0 hcc
  have hF:firX X n=celX X 0:=if_pos h0
  rw[A5K,A5z] at c1 c2
  rw[←hF] at c2
  obtain⟨F,hFF⟩:∃F,firX X n=F:=⟨_,rfl⟩
  rw[hFF] at c2 hbg hbF hlF ⊢
  have sF:csz (bvs F)=128:=by rw[I5,hlF]
  clear hFF hF hN hN2 l2 c3
  go_enter Tryz.func123,Tryz.ntmps123
  repeat' (first|refine Zbsm ?_|((with_reducible refine cons_list ?_);first|((first|refine J6 I3 own_st hS ?_ (hv:=by rw[A4r];exact c2)|refine J0 I3 E9 ?_ (hv:=by first|rfl|exact bvs_getLA|(rw[A4r];exact c2))|refine J5 I3 own_st hS ?_ (hv:=by first|(exact c2)|rfl)|refine I9 I3 E9 ?_ (hv:=by first|exact J1 _ _ A8|(exact c2)|rfl)|refine J4 I3 ?_ (hv':=by first|exact bvs_getLA|(rw[A4r];exact c2)))<;>refine I4 ?_))|(refine Zks ?_;clear hS;intro b w hS)|(refine Ztsm ?_;clear hS;intro w hS)|(refine Zc ?_ ?_<;>intro hc)|(refine Zg ?_;first|go_step|go_step3|refine Zr ?_)|fail)
  repeat' (first|refine Zasm ?_|(refine Zks ?_;clear hS;intro b w hS)|(refine Ztsm ?_;clear hS;intro w hS)|(refine Zc ?_ ?_<;>intro hc)|((with_reducible refine cons_list ?_);first|(refine J2 I3 own_st hS (hbg _ _ (hbF _ _ (hS.blk 0 rfl))) ?_;clear hS;intro w hS;refine I4 ?_)|(refine Stp.go I3 I2 I2 (r_convR I2 I2 G7 G7 (wrap_small2 hlt)) ?_;refine I4 ?_))|(refine Zg ?_;first|go_step|go_step3|refine Zr ?_)|fail)
  go_ret
  exact⟨_,_,rfl,hS.low 0 rfl,hS.low 1 rfl,hS.ne 0 1 rfl rfl H8,hS.blk 0 rfl,hS.blk 1 rfl,hS.below⟩
 ·have hF:firX X n=zs 128:=if_neg h0
  rw[hF] at hbg hbF ⊢
  obtain rfl:n=0:=by omega
  clear hF hN hN2 l2
  go_enter Tryz.func123,Tryz.ntmps123
  repeat' (first|refine Zasm ?_|(refine Zks ?_;clear hS;intro b w hS)|(refine Ztsm ?_;clear hS;intro w hS)|(refine Zc ?_ ?_<;>intro hc)|((with_reducible refine cons_list ?_);first|(refine J2 I3 own_st hS (hbg _ _ (hbF _ _ (hS.blk 0 rfl))) ?_;clear hS;intro w hS;refine I4 ?_)|(refine Stp.go I3 I2 I2 (r_convR I2 I2 G7 G7 (wrap_small2 hlt)) ?_;refine I4 ?_))|(refine Zg ?_;first|go_step|go_step3|refine Zr ?_)|fail)
  go_ret
  exact⟨_,_,rfl,hS.low 0 rfl,hS.low 1 rfl,hS.ne 0 1 rfl rfl H8,hS.blk 0 rfl,hS.blk 1 rfl,hS.below⟩
theorem puts1_iter(C:List UInt8)(hC:C.length=128)(gm gc:Nat)(W0:World)(hgm:blk W0 gm=some (.cells #[.int .i64 (numR C 8:Int)] 3 (0,0)))(hgc:blk W0 gc=some (.cells (bvs C) 39 (0,0))) :
  IterAt Tryz.prog 152 #[.pointer (some ⟨gm,0,none⟩),.pointer (some ⟨gc,0,none⟩)] (fun k=>#[.int .i64 (k:Int),.int .i64 (numR C (10+2*k):Int)]) (some (saysR C)) [gm,gc] W0:=by
 intro lb J Jx M W L0 hbW hR hM hJ0 hH' hY
 have hmW:blk W gm=some (.cells #[.int .i64 (numR C 8:Int)] 3 (0,0)):=(hbW.block gm (J8 hgm)).trans hgm
 have hcW:blk W gc=some (.cells (bvs C) 39 (0,0)):=(hbW.block gc (J8 hgc)).trans hgc
 have hgn:gm∉L0.map (·.1):=hR gm (A4w ..)
 have hgn2:gc∉L0.map (·.1):=hR gc (A4B _ (A4w ..))
 have sC:csz (bvs C)=128:=by rw[I5,hC]
 have hle:=saysR_le C
 have hsr:saysR C=if numR C 8≤56 then numR C 8 else 0:=rfl
 have hlt2:=numR_lt C 8
 have hnb:∀k:Nat,k≤56→∀w,Calls Tryz.prog 153 #[.agg (bvs C),.int .i64 (8+2*((k:Int)+1))] w fun e w'=>e=.returned (.int .i64 (numR C (10+2*k):Int))∧Below w.heap.size w w':=fun k hk w=>by
  have:=number_any C hC (10+2*k) H9 w
  rwa [show ((10+2*k:Nat):Int)=8+2*((k:Int)+1) by omega] at this
 obtain⟨q,hq⟩:∃q,saysR C=q:=⟨_,rfl⟩
 obtain⟨m,hm⟩:∃m,numR C 8=m:=⟨_,rfl⟩
 rw[hq] at hle hsr hY ⊢
 rw[hm] at hsr hmW hlt2
 clear hq hm hgm hgc hbW hR
 refine(callsIn_wide (n:=1)).1 ?_
 refine callsIn_of_wp Tryz.func152 rfl trivial ?_ rfl
 simp only[Tryz.ntmps152,A4X,A4J,A4Z,Nat.reduceAdd,Nat.reduceSub,A5t,A5u,A5G,A5w,A4A,A4K]
 have hS:=St.start W
 repeat' (first|refine ZaVm ?_|((with_reducible refine cons_in ?_);first|((first|refine J0 I7 E5 ?_|refine J0 I7 (by first|exact((hS).far hcW).1) ?_|refine I9 I7 E5 ?_|refine I9 I7 (by first|exact((hS).far hcW).1) ?_)<;>refine I4 ?_))|(refine ZkV ?_;clear hS;intro b w hS)|(refine ZtVm ?_;clear hS;intro w hS)|(refine Zcw ?_ ?_<;>intro hc)|(refine Zi ?_;first|gi_step|refine Zq ?_)|fail)
 gi_loopg [4] q (fun r u4 wr=>∃k L,r+k=q∧u4=.int .i64 (k:Int)∧J k L∧Rd L0 W L wr)
 case atStart=>exact⟨0,L0,by omega,rfl,hJ0,.call hH' hS.below⟩
 case round =>
  obtain⟨k,L,hk,rfl,hJ,hRd⟩:=hrel
  have hmr:blk wr gm=some (.cells #[.int .i64 (m:Int)] 3 (0,0)):=(hRd.farCells hmW hgn).1
  have hcr:blk wr gc=some (.cells (bvs C) 39 (0,0)):=(hRd.farCells hcW hgn2).1
  replace hS:=St.start wr
  by_cases hlt:k<q
  ·have h56:m≤56:=by
    rcases A6u 56 m with h|h
    ·rw[if_neg H9] at hsr;omega
    ·exact h
   rw[if_pos h56] at hsr
   subst hsr
   have hnk:=hnb k H9
   have hyk:=fun W=>hY k L W hJ
   dsimp only at hyk
   obtain⟨N,hN⟩:∃N,numR C (10+2*k)=N:=⟨_,rfl⟩
   rw[hN] at hnk hyk
   repeat' (first|refine ZaVm ?_|((with_reducible refine cons_in ?_);first|((first|refine J0 I7 E6 ?_|refine J0 I7 E7 ?_|refine I9 I7 E6 ?_|refine I9 I7 E7 ?_)<;>refine I4 ?_))|(refine ZkV ?_;clear hS;intro b w hS)|(refine ZtVm ?_;clear hS;intro w hS)|(refine Zcw ?_ ?_<;>intro hc)|((with_reducible refine cons_in ?_);first|(refine J2 I7 own_st hS (hnk _) ?_;clear hS;intro w hS;refine I4 ?_))|(refine Zi ?_;first|gi_step|refine Zq ?_)|fail)
   have hRd1:Rd L0 W L _:=hRd.trans (.call hRd.holds hS.below)
   (refine A3n I2 I2 I2 I2 I2 (by simpa using hyk _ hRd1 (fun n h=>by cases h;omega)) ?_)
   rintro e W3 ⟨L2,hRd2,(⟨rfl,hJ2⟩|⟨rfl,hx⟩)⟩
   ·refine⟨_,rfl,?_⟩
    refine I4 ?_
    have hRd3:=hRd1.trans hRd2
    replace hS:=St.start W3
    repeat' (first|refine ZaVm ?_|(refine ZkV ?_;clear hS;intro b w hS)|(refine ZtVm ?_;clear hS;intro w hS)|(refine Zcw ?_ ?_<;>intro hc)|(refine Zi ?_;first|gi_step|refine Zq ?_)|fail)
    gi_roundg (gk - 1)
    case rel=>exact⟨k+1,L2,by omega,by push_cast;rfl,hJ2,hRd3⟩
    case measure=>omega
   ·refine⟨_,rfl,?_⟩
    refine I4 ?_
    have hRd3:=hRd1.trans hRd2
    replace hS:=St.start W3
    repeat' (first|refine ZaVm ?_|(refine ZkV ?_;clear hS;intro b w hS)|(refine ZtVm ?_;clear hS;intro w hS)|(refine Zcw ?_ ?_<;>intro hc)|(refine Zi ?_;first|gi_step|refine Zq ?_)|fail)
    refine bodyPost_end (results_none rfl _ _ _) rfl ?_
    exact⟨⟨_,rfl⟩,L2,hRd3,.inr hx⟩
  ·obtain rfl:k=q:=by omega
   by_cases h56:m≤56
   ·rw[if_pos h56] at hsr
    subst hsr
    repeat' (first|refine ZaVm ?_|((with_reducible refine cons_in ?_);first|((first|refine J0 I7 E6 ?_|refine J0 I7 E7 ?_|refine I9 I7 E6 ?_|refine I9 I7 E7 ?_)<;>refine I4 ?_))|(refine ZkV ?_;clear hS;intro b w hS)|(refine ZtVm ?_;clear hS;intro w hS)|(refine Zcw ?_ ?_<;>intro hc)|(refine Zi ?_;first|gi_step|refine Zq ?_)|fail)
    refine bodyPost_end (results_none rfl _ _ _) rfl ?_
    exact⟨⟨_,rfl⟩,L,hRd.trans (.call hRd.holds hS.below),.inl ⟨_,rfl,hJ⟩⟩
   ·rw[if_neg h56] at hsr
    subst hsr
    by_cases h00:(0:Int)<(m:Int)
    ·repeat' (first|refine ZaVm ?_|((with_reducible refine cons_in ?_);first|((first|refine J0 I7 E6 ?_|refine J0 I7 E7 ?_|refine I9 I7 E6 ?_|refine I9 I7 E7 ?_)<;>refine I4 ?_))|(refine ZkV ?_;clear hS;intro b w hS)|(refine ZtVm ?_;clear hS;intro w hS)|(refine Zcw ?_ ?_<;>intro hc)|(refine Zi ?_;first|gi_step|refine Zq ?_)|fail)
     refine bodyPost_end (results_none rfl _ _ _) rfl ?_
     exact⟨⟨_,rfl⟩,L,hRd.trans (.call hRd.holds hS.below),.inl ⟨_,rfl,hJ⟩⟩
    ·omega
end
section
instance instRdA_1:StT Tryz.prog 93 [(0,1),(1,128)] (.int .i64 0::(zs 128).map bv):=⟨by kernel_rfl⟩
theorem A1A(a:Int){C:List UInt8}(hC:C.length=128):Tryz.prog.built 93 [(0,.int .i64 a),(1,.agg (bvs C))]=some (hdV a C) :=
 A0u (pl:=[(0,1),(1,128)]) (z:=.int .i64 0::(zs 128).map bv) G7 (A0E (cs:=.int .i64 a::C.map bv) (FillS.one (off:=0) rfl rfl I1 rfl (FillS.row (off:=1) (n:=128) rfl (by rw[I5,hC]) (by rw[A5L,A4J,A4D,zs_len];omega) (by
  rw[A4I (by rw[A5L,A4J,A4D,zs_len];omega),A4U]
  rfl) FillS.nil)))
theorem cut_two{cs:Array Value}{o:Nat}{x y:Value}(h1:cs[o]?=some x)(h2:cs[o+1]?=some y):cut cs o 2=#[x,y]:=by
 have hsz:=(A4L.1 h2).1
 have hex:cs.extract o (o+2)=#[x,y]:=by
  apply A5J
  intro i
  rw[A6p]
  match i with
  | 0=>rw[if_pos H9];exact h1
  | 1=>rw[if_pos H9];exact h2
  | i+2=>rw[if_neg H9];rfl
 unfold cut
 split
 ·rename_i h
  have:cs.extract o (o+2)=cs:=by
   rw[h.1,A4G]
   have h2:=h.2
   rw[L6] at h2
   rw[←h2,Array.extract_size]
  rw[←this];exact hex
 ·exact hex
theorem PutsAt.own{w:World}{g c:Nat}{l:List Pt}{sp:List Value}{t:TypeId}{fr:Nat × Nat}{n:Nat}(ho:okP l)(hn:l.length=n)(hc:n≤c)(hb:blk w g=some (.cells (putsC l++sp).toArray t fr)):PutsAt w (.slice (some ⟨g,0,none⟩) n c) l:=by
 subst hn
 exact⟨ho,_,c,rfl,hc,(fun h=>by cases h),fun _=>⟨g,0,_,t,fr,rfl,hb,fun j x hj=>by
  rw[A4G,A4y,A4P (A4z.1 hj).1,hj]⟩⟩
theorem A0V{x:Pt}:∀v∈putC x,v.oneCell'=true:=by
 intro v h
 rcases A4R.1 h with rfl|h
 ·rfl
 ·obtain⟨y,_,rfl⟩:=A4M.1 h;rfl
end
end
section
open Go.ChangeShapes Go.WideShapes Go.ChangeAt Go.RowKit
end
section
open Go.ChangeShapes Go.WideShapes Go.ChangeAt Go.RowKit
attribute [local irreducible] wpList wpListIn Oper.quietAt wpM
attribute [local irreducible] encL
theorem A2O(key:List UInt8)(n:Int){l:List Pt}(ho:okP l)(h:l.length≤56):(encL key n l).length=128*(l.length+2):=by
 unfold encL
 rw[A4s,A4s,V9 n h,A1F,A2Z ho];omega
theorem PutsAt.nil(w:World):PutsAt w (.slice none 0 0) []:=⟨fun _ h=>absurd h A5e,none,0,rfl,A4F _,fun _=>rfl,fun h=>absurd rfl h⟩
end
end Go.Proofs.YtggbbafanhceaaaGreatRR
