/- Laws that the claim uses. No condition of their own. -/
import Derived.Test.YtlfbfbbdpcihfaaGreatJ37
set_option maxRecDepth 100000
set_option maxHeartbeats 8000000
set_option linter.all false
namespace Go.Proofs.YtlfbfbbdpcihfaaGreat
section
open Go.ChangeShapes Go.WideShapes Go.ChangeAt Go.RowKit
attribute [local irreducible] wpList wpListIn Oper.quietAt wpM
attribute [local irreducible] shaL
def loadH(su:List UInt8)(b:Nat)(M:List UInt8):List UInt8:=owL (owL (owL M 0 (restL (celX su b))) 88 (sl su (128*(b+1)) 256)) 344 (sl su (128*(b+3)) 256)
def loadK(M:List UInt8)(U:Nat->List UInt8):Nat->List UInt8
 | 0=>M
 | k+1=>owL (loadK M U k) (600+64*k) (U k)
structure LoadOk(su:List UInt8)(b:Nat)(hk wk:List UInt8)(U:Nat->List UInt8)(M:List UInt8):Prop where
 head:0<=cntL (celX su b)/\tagL hk ((celX su b).take 96)=(celX su b).drop 96
 rest:restD (loadH su b M)=(restL (celX su b)).drop 64
 slot:∀k,k<2->(unwrapX wk ((celX su (b+1+k)).take 72)).1=a6L/\(unwrapX wk ((celX su (b+1+k)).take 72)).2=U k/\wrapV wk (U k)++zs 56=celX su (b+1+k)/\(U k).length=64
section
variable{P:Nat}{cn bs:Int}{h l k:Value}{ct:Int}{M:List UInt8}{t0 t1:Value}{dn:Bool}
theorem vC_setHead{ct':Int}{X:List UInt8}(hM:M.length=728)(hX:X.length=88):paste (vC P cn bs h l k ct M t0 t1 dn) 6 (hdV ct' X)=vC P cn bs h l k ct' (owL M 0 X) t0 t1 dn:=by
 have e1:vC P cn bs h l k ct M t0 t1 dn=midC ([.pointer (some ⟨P,0,none⟩),.int .i64 cn,.int .i64 bs,h,l,k]++[.int .i64 ct]) (M.take 88) ([]++((M.drop 88).map bv++[t0,t1,.bool dn])):=by
  unfold vC midC
  simp only[A5g,A5a,A3q]
  rw[<-A3K ((M.map bv).take 88),A3O]
  simp
 have e2:hdV ct' X=midC [.int .i64 ct'] X []:=by unfold hdV midC;simp
 rw[e1,e2]
 refine(mid_outer (p1:=[.pointer (some ⟨P,0,none⟩),.int .i64 cn,.int .i64 bs,h,l,k]) (p2:=[.int .i64 ct]) (p2':=[.int .i64 ct']) (M:=M.take 88) (M':=X) (q1:=[]) (q1':=[]) (q2:=(M.drop 88).map bv++[t0,t1,.bool dn]) (q:=6) F0 rfl rfl (by simp[hX,hM]) rfl).trans ?_
 unfold vC midC owL
 rw[hX]
 simp
end
section
variable{P:Nat}{cn bs:Int}{h l k:Value}{ct:Int}{M:List UInt8}{t0 t1:Value}{dn:Bool}
theorem vC_setTree{tv:Nat->Value}{v:Value}(hM:M.length=728){j:Nat}(hj:j<2):(vC P cn bs h l k ct M (tv 0) (tv 1) dn).setIfInBounds (735+j) v=vC P cn bs h l k ct M (updF tv j v 0) (updF tv j v 1) dn:=by
 match j,hj with
 | 0,_=>unfold vC;rw[A0q (o:=0) (by simp[hM])];rfl
 | 1,_=>unfold vC;rw[A0q (o:=1) (by simp[hM])];rfl
theorem vC_paste{x:List UInt8}{o q:Nat}(hq:q=7+o)(hx:o+x.length<=M.length):paste (vC P cn bs h l k ct M t0 t1 dn) q (bvs x)=vC P cn bs h l k ct (owL M o x) t0 t1 dn:=by unfold vC;exact A1L F0 (by simpa using hq) hx
def vPre(P:Nat)(cn bs:Int)(h l k:Value)(ct:Int)(M:List UInt8)(o:Nat):List Value:=[.pointer (some ⟨P,0,none⟩),.int .i64 cn,.int .i64 bs,h,l,k,.int .i64 ct]++(M.take o).map bv
def vPost(M:List UInt8)(o:Nat)(t0 t1:Value)(dn:Bool):List Value:=(M.drop o).map bv++[t0,t1,.bool dn]
theorem vC_parts{o n:Nat}:(vC P cn bs h l k ct M t0 t1 dn).toList=vPre P cn bs h l k ct M o++(sl M o n).map bv++vPost M (o+n) t0 t1 dn:=by
 unfold vC midC vPre vPost sl
 have e:M=M.take o++((M.drop o).take n++M.drop (o+n)):=by rw[<-A5i,A3O,A3O]
 have e2:=congrArg (List.map bv) e
 simp only[A3J] at e2
 show _++(M.map bv++_)=_
 rw[e2]
 simp only[A3K]
theorem vC_put{o:Nat}{x:List UInt8}:(vPre P cn bs h l k ct M o++x.map bv++vPost M (o+x.length) t0 t1 dn).toArray=vC P cn bs h l k ct (owL M o x) t0 t1 dn:=by
 unfold vC midC vPre vPost owL
 simp only[A3J,A3K]
end
section
variable{rd:Rdr}{w00 w0:World}{g:G4}{N:Nat}{su:List UInt8}{co:List Int}{L:List Blk}
theorem loadH_len{b:Nat}{M:List UInt8}(hM:M.length=728)(hsu:su.length=128*N)(hb:b+117<=N):(loadH su b M).length=728:=by
 have h0:=A1Q (celX_len (i:=b) hsu E9)
 have h1:=sl_len (M:=su) (o:=128*(b+1)) (n:=256) E9
 have h2:=sl_len (M:=su) (o:=128*(b+3)) (n:=256) E9
 have e1:(owL M 0 (restL (celX su b))).length=728:=by rw[K0 E9,hM]
 have e2:(owL (owL M 0 (restL (celX su b))) 88 (sl su (128*(b+1)) 256)).length=728:=by rw[K0 E9,e1]
 unfold loadH
 rw[K0 E9,e2]
theorem load_on(hrd:RdCel rd){V:Nat}{cn:Int}{ba:Nat}{hv lv kv:Value}{hk wk:List UInt8}{ct:Int}{M:List UInt8}{tv:Nat->Value}{dn:Bool}{ty:TypeId}(hM:M.length=728)(hD:Dk rd w00 g Fon N su [] co w0 ((V,vC g.P cn (ba:Int) hv lv kv ct M (tv 0) (tv 1) dn,ty)::L))(hb:ba+117<=N)(hhk:BytesM L hv hk/\hk.length<=1000000)(hwk:BytesM L kv wk/\wk.length=32)(U:Nat->List UInt8)(hok:LoadOk su ba hk wk U M) :
  Calls Tryz.prog 132 #[.pointer (some ⟨V,0,none⟩)] w0 fun e w'=>∃(tv':Nat->Value)(L':List Blk),e=.returned .nilIface/\(∀x∈L,x∈L')/\(∀k,k<2->TreeM L' (tv' k) (sl su (128*(ba+85+24*k)) 1024))/\Dk rd w00 g Fon N su [] co w' ((V,vC g.P cn (ba:Int) hv lv kv (cntL (celX su ba)) (loadK (loadH su ba M) U 2) (tv' 0) (tv' 1) dn,ty)::L'):=by
 have hNN:=hD.ok
 obtain⟨⟨hN1,hN2⟩,hsu,_,hcl,_,_⟩:=hNN
 have hS:=hD
 obtain⟨hd1,hd2,hd3⟩:=hok
 have lH0:=A1Q (celX_len (i:=ba) hsu E9)
 have sV:=Q4 (P:=g.P) (cn:=cn) (bs:=(ba:Int)) (h:=hv) (l:=lv) (k:=kv) (ct:=ct) (t0:=tv 0) (t1:=tv 1) (dn:=dn) hM
 have cV:=A1O (P:=g.P) (cn:=cn) (bs:=(ba:Int)) (h:=hv) (l:=lv) (k:=kv) (ct:=ct) (t0:=tv 0) (t1:=tv 1) (dn:=dn) hM
 have v3:=vC_3 (P:=g.P) (cn:=cn) (bs:=(ba:Int)) (h:=hv) (l:=lv) (k:=kv) (ct:=ct) (M:=M) (t0:=tv 0) (t1:=tv 1) (dn:=dn)
 have hr0:=fun w L (h:Dk rd w00 g Fon N su [] co w L)=>A2K hrd h cn (ba:Int) ⟨by omega,by omega⟩ 0 5 (by push_cast;omega) ⟨by omega,by omega⟩
 rw[A3U,A4n] at hr0
 have lX:=sl_len (M:=su) (o:=128*ba) (n:=128*5) E9
 have hX0:celX (sl su (128*ba) (128*5)) 0=celX su ba:=by rw[P3,P3,sl_sl E9];rfl
 have hth:=fun w Y (h:Dk rd w00 g Fon N su [] co w Y) hY=>A3b hk hhk.2 (celX su ba) (celX_len (i:=ba) hsu E9) hv w (hhk.1.at own_dk h hY)
 rw[hdRes_pos hd1.1 hd1.2] at hth
 obtain⟨MC,hMCx⟩:∃x,loadH su ba M=x:=⟨_,rfl⟩
 rw[hMCx] at hd2 |-
 go_enter Tryz.func132,Tryz.ntmps132
 refine ZxKm ?_;intro _ _ _
 refine F7 stp_list F1 F1 F1 F1 F1 E5 (hr0 _ _ hS) ?_
 rintro e w1 ⟨gC,rfl,q1,q2,q3⟩
 refine⟨_,rfl,?_⟩
 replace hS:=own_dk.new hS q3 q1 q2
 clear q1 q2 q3 hr0
 refine F2 ?_
 refine ZdKm ?_;intro _ _
 obtain⟨X,hX⟩:∃x,sl su (128*ba) (128*5)=x:=⟨_,rfl⟩
 rw[hX] at hX0 lX hS
 have sX:csz (bvs X)=640:=by rw[F3,lX]
 have cX0:cut (bvs X) 0 128=bvs (celX su ba):=by
  have:=(celX_cut (cs:=bvs X) (o:=0) (X:=X) (k:=5) (i:=0) E9 E9 (fun j x hj=>by rw[A3x];unfold bvs;rw[A3o,A3N,hj];rfl)).2.1
  rw[hX0] at this
  exact this
 have hvs:=vC_setHead (P:=g.P) (cn:=cn) (bs:=(ba:Int)) (h:=hv) (l:=lv) (k:=kv) (ct:=ct) (t0:=tv 0) (t1:=tv 1) (dn:=dn) (ct':=cntL (celX su ba)) hM lH0
 have sHd:csz (hdV 0 (zs 88))=89:=by rw[J3,zs_len]
 have sHr:csz (hdV (cntL (celX su ba)) (restL (celX su ba)))=89:=by rw[J3,lH0]
 have oHr:=N3 (cntL (celX su ba)) (restL (celX su ba))
 obtain⟨HV,hHV⟩:∃x,hdV (cntL (celX su ba)) (restL (celX su ba))=x:=⟨_,rfl⟩
 rw[hHV] at hth hvs sHr oHr
 refine M7 11 13 13 E7 E7 B7 E7 (fun d _ _ _ _ h=>by cases d<;>exact h) ?_
 dsimp only[List.take,List.drop]
 iterate 13 (first|(refine Zw ?_;apply Exists.intro;refine⟨fun pB w' hw' hF=>?_,?_⟩;(focus (have hZ:=(own_dk).call hS hw';exact(G8 (hth _ _ hZ (fun x hx=>by simp[hx])))));refine Zo ?_)|refine ZQm ?_|refine ZUK ?_|refine ZQz ?_|refine ZXK ?_)
 refine Zn own_dk hS ?_
 clear hS
 intro pB w hS
 try dsimp only
 generalize pB _=bH at hS |-
 repeat' (first|(refine Zll ?_;(refine I1 stp_list own_dk hS ?_ (hv:=oHr);clear hS;intro w hS;refine F2 ?_))|refine ZaKm ?_|(refine Zg ?_;go_step)|fail)
 rw[hvs] at hS
 have hX1:sl X 128 256=sl su (128*(ba+1)) 256:=by rw[<-hX,sl_sl E9];congr 1
 have hX3:sl X 384 256=sl su (128*(ba+3)) 256:=by rw[<-hX,sl_sl E9];congr 1
 have l1:=sl_len (M:=X) (o:=128) (n:=256) E9
 have l3:=sl_len (M:=X) (o:=384) (n:=256) E9
 have hA1:(owL M 0 (restL (celX su ba))).length=728:=by rw[K0 E9,hM]
 generalize hMA:owL M 0 (restL (celX su ba))=MA at *
 refine F6 7 E7 E7 ?_
 dsimp only[List.take,List.drop]
 iterate 7 (refine ZQm ?_)
 refine Zn own_dk hS ?_
 clear hS
 intro pB w hS
 try dsimp only
 refine s_copyD (i:=2) (pre:=vPre g.P cn (ba:Int) hv lv kv (cntL (celX su ba)) MA 88) (mid:=(sl MA 88 256).map bv) (post:=vPost MA (88+256) (tv 0) (tv 1) dn) (xs:=(sl X 128 256).map bv) (cs2:=vC g.P cn (ba:Int) hv lv kv (cntL (celX su ba)) (owL MA 88 (sl X 128 256)) (tv 0) (tv 1) dn) stp_list own_dk hS F1 F1 F1 F1 E5 F1 vC_parts (by unfold vPre;simp;omega) (by simp[l1,sl_len (M:=MA) (o:=88) (n:=256) E9]) (by rw[A3u,l1];rfl) (L9 (own_dk.blk 1 hS rfl) (fun j v hj=>by
  rw[A3N,A0w] at hj
  split at hj
  ·show (X.map bv)[128+j]?=some v
   rw[A3N];exact hj
  ·cases hj)) C4 (by have:=vC_put (P:=g.P) (cn:=cn) (bs:=(ba:Int)) (h:=hv) (l:=lv) (k:=kv) (ct:=cntL (celX su ba)) (M:=MA) (t0:=tv 0) (t1:=tv 1) (dn:=dn) (o:=88) (x:=sl X 128 256);rw[l1] at this;exact this) A9 F1 ?_
 clear hS
 intro w hS
 refine F2 ?_
 rw[hX1] at hS
 have hB1:(owL MA 88 (sl su (128*(ba+1)) 256)).length=728:=by rw[K0 (by rw[<-hX1,l1];omega),hA1]
 generalize hMB:owL MA 88 (sl su (128*(ba+1)) 256)=MB at *
 refine ZdKm ?_;intro _ _
 refine F6 7 E7 E7 ?_
 dsimp only[List.take,List.drop]
 iterate 7 (refine ZQm ?_)
 refine Zn own_dk hS ?_
 clear hS
 intro pB w hS
 try dsimp only
 refine s_copyD (i:=2) (pre:=vPre g.P cn (ba:Int) hv lv kv (cntL (celX su ba)) MB 344) (mid:=(sl MB 344 256).map bv) (post:=vPost MB (344+256) (tv 0) (tv 1) dn) (xs:=(sl X 384 256).map bv) (cs2:=vC g.P cn (ba:Int) hv lv kv (cntL (celX su ba)) (owL MB 344 (sl X 384 256)) (tv 0) (tv 1) dn) stp_list own_dk hS F1 F1 F1 F1 E5 F1 vC_parts (by unfold vPre;simp;omega) (by simp[l3,sl_len (M:=MB) (o:=344) (n:=256) E9]) (by rw[A3u,l3];rfl) (L9 (own_dk.blk 1 hS rfl) (fun j v hj=>by
  rw[A3N,A0w] at hj
  split at hj
  ·show (X.map bv)[384+j]?=some v
   rw[A3N];exact hj
  ·cases hj)) C4 (by have:=vC_put (P:=g.P) (cn:=cn) (bs:=(ba:Int)) (h:=hv) (l:=lv) (k:=kv) (ct:=cntL (celX su ba)) (M:=MB) (t0:=tv 0) (t1:=tv 1) (dn:=dn) (o:=344) (x:=sl X 384 256);rw[l3] at this;exact this) A9 F1 ?_
 clear hS
 intro w hS
 refine F2 ?_
 rw[hX3] at hS
 have hMC:owL MB 344 (sl su (128*(ba+3)) 256)=loadH su ba M:=by rw[<-hMB,<-hMA];rfl
 have lC:=loadH_len (b:=ba) hM hsu hb
 rw[hMC] at hS
 rw[hMCx] at hS lC
 have hre:=fun w hb=>rest_any (w0:=w) (bV:=V) (so:=6) (pre:=[.pointer (some ⟨g.P,0,none⟩),.int .i64 cn,.int .i64 (ba:Int),hv,lv,kv,.int .i64 (cntL (celX su ba))]) (M:=MC) (post:=[tv 0,tv 1,.bool dn]) (t:=ty) (fr:=(0,0)) hb rfl lC
 have cHr:cut HV 65 24=bvs ((restL (celX su ba)).drop 64):=by
  rw[<-hHV]
  have:=hd_cut (cntL (celX su ba)) (B:=restL (celX su ba)) (o:=64) (m:=24) E9
  rwa [A3B (by rw[A3H];omega)] at this
 rw[<-hd2] at cHr
 have lRe:=P9 MC
 obtain⟨RE,hRE⟩:∃x,restD MC=x:=⟨_,rfl⟩
 rw[hRE] at hre cHr lRe
 refine ZdKm ?_;intro _ _ _ _
 refine F6 7 E7 E7 ?_
 dsimp only[List.take,List.drop]
 iterate 7 (first|(refine Zw ?_;apply Exists.intro;refine⟨fun pB w' hw' hF=>?_,?_⟩;(focus (have hZ:=(own_dk).call hS hw';first|exact(G8 (hre _ (own_dk.blk 2 hZ rfl)))|exact(I9 (r_neA (n:=24) F1 F1 F1 E7 E7 lRe lRe (show (!(RE == RE))=false by simp)))));refine Zo ?_)|refine ZQm ?_|refine ZXK ?_)
 refine Zn own_dk hS ?_
 clear hS
 intro pB w hS
 try dsimp only
 replace hS:=own_dk.drop (own_dk.drop hS)
 have hkl:∀k,k<=2->(loadK MC U k).length=728:=fun k hk=>by
  induction k with
  | zero=>exact lC
  | succ k ih =>
   have h1:=ih E9
   have h2:=(hd3 k E9).2.2.2
   show (owL (loadK MC U k) (600+64*k) (U k)).length=728
   rw[K0 E9,h1]
 have cSl:cut (vC g.P cn (ba:Int) hv lv kv (cntL (celX su ba)) MC (tv 0) (tv 1) dn) 95 256=bvs (sl MC 88 256):=mid_cut F0 F0 E9
 have sVC:=Q4 (P:=g.P) (cn:=cn) (bs:=(ba:Int)) (h:=hv) (l:=lv) (k:=kv) (ct:=cntL (celX su ba)) (t0:=tv 0) (t1:=tv 1) (dn:=dn) lC
 repeat' (first|refine ZbKm ?_|(refine Zll ?_;((refine J0 stp_list own_dk hS ?_ (hv:=by(exact cSl)))<;>refine F2 ?_))|(refine Zg ?_;go_step)|fail)
 have hidx:∀k:Nat,k<2->(Value.agg (bvs (((sl MC 88 256).drop ((k:Int).toNat*128)).take 128)))=.agg (bvs (celX su (ba+1+k))):=fun k hk=>by
  have e1:sl MC 88 256=sl su (128*(ba+1)) 256:=by
   rw[<-hMCx,<-hMC,N0 (by rw[hX3.symm,l3];omega) E9,<-hMB]
   exact A0v (by rw[hX1.symm,l1]) E9
  rw[e1,A3U,P3]
  show Value.agg (bvs (sl (sl su (128*(ba+1)) 256) (k*128) 128))=_
  rw[sl_sl E9]
  congr 3;omega
 go_loopw [71] (fun u71 wr=>∃(k:Nat)(tvk:Nat->Value)(Lx:List Blk),k<=2/\u71=.int .i64 (k:Int)/\(∀x∈L,x∈Lx)/\(∀j,j<k->TreeM Lx (tvk j) (sl su (128*(ba+85+24*j)) 1024))/\Dk rd w00 g Fon N su [] co wr ((V,vC g.P cn (ba:Int) hv lv kv (cntL (celX su ba)) (loadK MC U k) (tvk 0) (tvk 1) dn,ty)::Lx)) (fun u71 _=>2 - (intOf u71).toNat)
 case atStart=>exact⟨0,tv,L,by omega,rfl,fun x hx=>hx,(fun j hj=>by omega),hS⟩
 case round =>
  clear hS
  obtain⟨k,tvk,Lx,hk,rfl,hsub,hT,hS⟩:=hrel
  by_cases hlt:k<2
  ·obtain⟨u1,u2,u3,u4⟩:=hd3 k hlt
   have hix:=hidx k hlt
   have lCk:=celX_len (i:=ba+1+k) hsu E9
   have lMk:=hkl k hk
   have lMk1:=hkl (k+1) E9
   have hnk:loadK MC U (k+1)=owL (loadK MC U k) (600+64*k) (U k):=rfl
   have htk:=fun w Y (h:Dk rd w00 g Fon N su [] co w Y) hY=>take_on wk (celX su (ba+1+k)) (U k) (.inr hwk.2) lCk u1 u2 true (by rw[u3];simp) kv w (hwk.1.at own_dk h hY)
   rw[if_pos rfl] at htk
   obtain⟨Ck,hCk⟩:∃x,celX su (ba+1+k)=x:=⟨_,rfl⟩
   rw[hCk] at hix lCk htk
   have sCk:csz (bvs Ck)=128:=by rw[F3,lCk]
   have sZk:csz (bvs (zs 128))=128:=by rw[F3,zs_len]
   have sUk:csz (bvs (U k))=64:=by rw[F3,u4]
   have sVk:=Q4 (P:=g.P) (cn:=cn) (bs:=(ba:Int)) (h:=hv) (l:=lv) (k:=kv) (ct:=cntL (celX su ba)) (t0:=tvk 0) (t1:=tvk 1) (dn:=dn) lMk
   have v5:=vC_5 (P:=g.P) (cn:=cn) (bs:=(ba:Int)) (h:=hv) (l:=lv) (k:=kv) (ct:=cntL (celX su ba)) (M:=loadK MC U k) (t0:=tvk 0) (t1:=tvk 1) (dn:=dn)
   have hpa:=vC_paste (P:=g.P) (cn:=cn) (bs:=(ba:Int)) (h:=hv) (l:=lv) (k:=kv) (ct:=cntL (celX su ba)) (M:=loadK MC U k) (t0:=tvk 0) (t1:=tvk 1) (dn:=dn) (x:=U k) (o:=600+64*k) (q:=607+k*64) E9 E9
   rw[<-hnk] at hpa
   repeat' (first|refine ZaKm ?_|(refine ZkK ?_;clear hS;intro b w hS)|(refine ZtKm ?_;clear hS;intro w hS)|(refine Zll ?_;(refine Stp.go stp_list F1 F1 (r_indexR F1 F1 F1 Tryz.underlying135 Tryz.underlying36 E7 ⟨by omega,by omega⟩ hix) ?_;refine F2 ?_))|(refine Zg ?_;go_step)|fail)
   obtain⟨bC,hbC⟩:∃x,x=b:=⟨_,rfl⟩
   rw[<-hbC] at hS |-
   clear hbC
   refine M7 11 16 16 E7 E7 B7 E7 (fun d _ _ _ _ h=>by cases d<;>exact h) ?_
   dsimp only[List.take,List.drop]
   iterate 16 (first|(refine Zw ?_;apply Exists.intro;refine⟨fun pB w' hw' hF=>?_,?_⟩;(focus (have hZ:=(own_dk).call hS hw';exact(G8 (htk _ _ hZ (fun x hx=>by simp[hsub x hx])))));refine Zo ?_)|refine ZQm ?_|refine ZUK ?_)
   refine Zn own_dk hS ?_
   clear hS
   intro pB w hS
   try dsimp only
   refine ZdKm ?_;clear hS;intro w hS _ _ _
   rw[hpa] at hS
   clear hpa htk v5 u1 u2 u3 hnk sVk hix
   have sVn:=Q4 (P:=g.P) (cn:=cn) (bs:=(ba:Int)) (h:=hv) (l:=lv) (k:=kv) (ct:=cntL (celX su ba)) (t0:=tvk 0) (t1:=tvk 1) (dn:=dn) lMk1
   have cVn:=A1O (P:=g.P) (cn:=cn) (bs:=(ba:Int)) (h:=hv) (l:=lv) (k:=kv) (ct:=cntL (celX su ba)) (t0:=tvk 0) (t1:=tvk 1) (dn:=dn) lMk1
   have hst:=fun v=>vC_setTree (P:=g.P) (cn:=cn) (bs:=(ba:Int)) (h:=hv) (l:=lv) (k:=kv) (ct:=cntL (celX su ba)) (tv:=tvk) (v:=v) (dn:=dn) lMk1 hlt
   obtain⟨TT,hTT⟩:∃x,sl su (128*(ba+85+24*k)) 1024=x:=⟨_,rfl⟩
   have lTT:TT.length=1024:=by rw[<-hTT];exact sl_len E9
   obtain⟨KX,hKX⟩:∃K:Nat->Array Value->Prop,K=fun c cs=>c=8/\cs=bvs TT:=⟨_,rfl⟩
   have hrX:=fun w Y (h:Dk rd w00 g Fon N su [] co w Y)=>(A2K hrd h cn (ba:Int) ⟨by omega,by omega⟩ (85+24*k) 8 (by push_cast;omega) ⟨by omega,by omega⟩).mono (R':=fun e w''=>∃g c cs,e=.returned (.tuple #[.slice (some ⟨g,0,none⟩) 8 c,.nilIface])/\w.heap.size<=g/\blk w'' g=some (.cells cs 36 (0,0))/\KX c cs/\Below w.heap.size w w'') (by
    rintro e w'' ⟨g,h1,h2,h3,h4⟩
    rw[show sl su (128*((ba:Int).toNat+(85+24*k))) (128*8)=TT by rw[<-hTT,A3U,show ba+(85+24*k)=ba+85+24*k by omega]] at h3
    exact⟨g,8,_,h1,h2,h3,by rw[hKX];exact⟨rfl,rfl⟩,h4⟩)
   rw[show ((85+24*k:Nat):Int)=85+24*(k:Int) by push_cast;rfl] at hrX
   have hta:=fun w=>treeAt_any k hlt w
   have hS0:=hS
   rename World=>wq
   refine MV.region_val_lit 12 E7 E7 ?_
   dsimp only[List.take,List.drop]
   iterate 12 (first|(refine MV.wpV_want (fun _=>rfl) (fun K hK=>?_);apply Exists.intro;refine⟨fun pB w' hw' hF=>?_,hK _ _ ?_⟩;(focus (have hZ:=(own_dk).call hS hw';exact(G8 (hta _))));clear hK K;refine Zo ?_)|refine ZV ?_|(refine MV.wpV_want (fun _=>rfl) (fun K hK=>?_);apply Exists.intro;refine⟨fun pB w' hw' hF=>?_,hK _ _ ?_⟩;(focus (have hZ:=(own_dk).call hS hw';exact M8 own_dk hZ (hv:=by(exact cVn))));clear hK K;refine Zo ?_)|(refine MV.wpV_same (PhA wq.heap.size 8 36 KX) (A2g) (fun _=>rfl) (fun bb w' hw' hF=>?_) ?_;(focus (have hZ:=(own_dk).call hS hw';exact MV.yields_call (phA_call (hrX _ _ hZ) hw')));refine Zo ?_)|(refine MV.wpV_same (PhA wq.heap.size 8 36 KX) (A2g) (fun _=>rfl) (fun bb w' hw' hF=>?_) ?_;(focus (have hZ:=(own_dk).call hS hw';exact A1b ⟨MV.FactsAt.at (Φ:=PhA wq.heap.size 8 36 KX) 6 hF,Below.refl _ _⟩));refine Zo ?_)|(refine MV.wpV_same (PhB wq.heap.size 8 36 KX) (O7) (fun _=>rfl) (fun bb w' hw' hF=>?_) ?_;(focus (have hZ:=(own_dk).call hS hw';exact ext_phA0 (MV.FactsAt.at (Φ:=PhA wq.heap.size 8 36 KX) 7 hF)));refine Zo ?_)|(refine MV.wpV_same (PhC) (phC_mon) (fun _=>rfl) (fun bb w' hw' hF=>?_) ?_;(focus (have hZ:=(own_dk).call hS hw';exact ext_phA1 (MV.FactsAt.at (Φ:=PhA wq.heap.size 8 36 KX) 7 hF)));refine Zo ?_)|(refine MV.wpV_same (PhB wq.heap.size 8 36 KX) (O7) (fun _=>rfl) (fun bb w' hw' hF=>?_) ?_;(focus (have hZ:=(own_dk).call hS hw';exact V4 ⟨MV.FactsAt.at (Φ:=PhB wq.heap.size 8 36 KX) 8 hF,Below.refl _ _⟩));refine Zo ?_)|(refine MV.wpV_same (PhC) (phC_mon) (fun _=>rfl) (fun bb w' hw' hF=>?_) ?_;(focus (have hZ:=(own_dk).call hS hw';exact V4 ⟨MV.FactsAt.at (Φ:=PhC) 9 hF,Below.refl _ _⟩));refine Zo ?_))
   refine MV.wpV_nil ?_
   intro bb w hcq hfq
   replace hS:=(own_dk).call hS hcq
   try dsimp only
   have fT:=hfq (11,PhC) F0
   have fS:=hfq (10,PhB wq.heap.size 8 36 KX) F0
   dsimp only at fT fS
   obtain⟨T1,hT1⟩:∃x,bb (0+1+1+1+1+1+1+1+1+1+1+1)=x:=⟨_,rfl⟩
   obtain⟨X1,hX1⟩:∃x,bb (0+1+1+1+1+1+1+1+1+1+1)=x:=⟨_,rfl⟩
   rw[hT1,hX1]
   rw[show bb 11=T1 from hT1] at fT
   rw[show bb 10=X1 from hX1] at fS
   clear hfq hT1 hX1 hcq
   obtain⟨gE,cE,eC,rfl,g1,g2,g3⟩:=fS
   obtain rfl:T1=.nilIface:=fT
   replace hS:=Own.take own_dk hS hS0 g1 g2
   clear hS0 g1 g2
   rw[hKX] at g3
   obtain⟨rfl,rfl⟩:=g3
   clear hrX hKX hta cVn
   generalize gE=gX at hS |-
   refine ZdKm ?_;intro _ _
   have hXM:∀Y:List Blk,(gX,bvs TT,36)∈Y->CellsM Y (.slice (some ⟨gX,0,none⟩) 8 8) TT 8:=fun Y hm=>⟨by omega,gX,0,8,_,_,rfl,by omega,hm,fun j x hj=>by rw[A3x];unfold bvs;rw[A3o,A3N,hj];rfl⟩
   obtain⟨KT,hKT⟩:∃K:Nat->Array Value->Prop,K=fun c cs=>c=32/\cs=bvs TT:=⟨_,rfl⟩
   have htg:=fun w v (h:CellsAt w v TT 8)=>(tags_any TT v w h).mono (R':=fun e w''=>∃g c cs,e=.returned (.tuple #[.slice (some ⟨g,0,none⟩) 32 c,.nilIface])/\w.heap.size<=g/\blk w'' g=some (.cells cs 130 (0,0))/\KT c cs/\Below w.heap.size w w'') (by
    rintro e w'' ⟨g,h1,h2,h3,h4⟩
    exact⟨g,32,_,h1,h2,h3,by rw[hKT];exact⟨rfl,rfl⟩,h4⟩)
   have hS0:=hS
   rename World=>wq
   refine MV.region_val_late_lit 6 11 11 E7 E7 B7 E7 (fun d _ _ _ _ h=>by cases d<;>exact h) ?_
   dsimp only[List.take,List.drop]
   iterate 11 (first|refine ZV ?_|(refine MV.wpV_same (PhA wq.heap.size 32 130 KT) (A2g) (fun _=>rfl) (fun bb w' hw' hF=>?_) ?_;(focus (have hZ:=(own_dk).call hS hw';exact MV.yields_call (phA_call (htg _ _ ((hXM _ (A3m ..)).at own_dk hZ (fun x hx=>hx))) hw')));refine Zo ?_)|(refine MV.wpV_same (PhA wq.heap.size 32 130 KT) (A2g) (fun _=>rfl) (fun bb w' hw' hF=>?_) ?_;(focus (have hZ:=(own_dk).call hS hw';exact A1b ⟨MV.FactsAt.at (Φ:=PhA wq.heap.size 32 130 KT) 3 hF,Below.refl _ _⟩));refine Zo ?_)|(refine MV.wpV_same (PhB wq.heap.size 32 130 KT) (O7) (fun _=>rfl) (fun bb w' hw' hF=>?_) ?_;(focus (have hZ:=(own_dk).call hS hw';exact ext_phA0 (MV.FactsAt.at (Φ:=PhA wq.heap.size 32 130 KT) 4 hF)));refine Zo ?_)|(refine MV.wpV_same (PhC) (phC_mon) (fun _=>rfl) (fun bb w' hw' hF=>?_) ?_;(focus (have hZ:=(own_dk).call hS hw';exact ext_phA1 (MV.FactsAt.at (Φ:=PhA wq.heap.size 32 130 KT) 4 hF)));refine Zo ?_))
   refine MV.wpV_nil ?_
   intro bb w hcq hfq
   replace hS:=(own_dk).call hS hcq
   try dsimp only
   have fT:=hfq (6,PhC) F0
   have fS:=hfq (5,PhB wq.heap.size 32 130 KT) F0
   dsimp only at fT fS
   obtain⟨T1,hT1⟩:∃x,bb (0+1+1+1+1+1+1)=x:=⟨_,rfl⟩
   obtain⟨X1,hX1⟩:∃x,bb (0+1+1+1+1+1)=x:=⟨_,rfl⟩
   rw[hT1,hX1]
   rw[show bb 6=T1 from hT1] at fT
   rw[show bb 5=X1 from hX1] at fS
   clear hfq hT1 hX1 hcq
   obtain⟨gE,cE,eC,rfl,g1,g2,g3⟩:=fS
   obtain rfl:T1=.nilIface:=fT
   replace hS:=Own.take own_dk hS hS0 g1 g2
   clear hS0 g1 g2
   rw[hKT] at g3
   obtain⟨rfl,rfl⟩:=g3
   refine ZdKm ?_;clear hS;intro w hS
   rw[hst] at hS
   have hS2:=own_dk.front hS (i:=3) rfl
   simp only[A4c,A4b] at hS2
   go_roundw
   case rel =>
    refine⟨k+1,updF tvk k (.slice (some ⟨gE,0,none⟩) 32 32),_,by omega,by push_cast;rfl,fun x hx=>by simp[hsub x hx],fun j hj=>?_,hS2⟩
    by_cases hjk:j=k
    ·subst hjk
     rw[updF_same,hTT]
     exact⟨lTT,gE,32,[],_,rfl,by omega,by unfold maxLen;omega,by rw[A3Q];exact A3m ..⟩
    ·rw[updF_ne _ _ hjk]
     exact(hT j E9).mono (fun x hx=>by simp[hx])
   case measure=>(simp[intOf];omega)
  ·obtain rfl:k=2:=by omega
   refine ZdKm ?_;intro _ _ _
   go_ret
   exact⟨tvk,Lx,rfl,hsub,hT,hS⟩
end
end
end Go.Proofs.YtlfbfbbdpcihfaaGreat
