/- Laws that the claim uses. No condition of their own. -/
import Derived.Test.YtlfbfbbdpcihfaaGreatJ34
set_option maxRecDepth 100000
set_option maxHeartbeats 8000000
set_option linter.all false
namespace Go.Proofs.YtlfbfbbdpcihfaaGreat
section
open Go.ChangeShapes Go.WideShapes Go.ChangeAt Go.RowKit
attribute [local irreducible] wpList wpListIn Oper.quietAt wpM
section
attribute [local irreducible] tagL
def cntL(C:List UInt8):Int:=wrap64 (beN (C.take 8):Int)
def restL(C:List UInt8):List UInt8:=(C.drop 8).take 88
theorem A1Q{C:List UInt8}(h:C.length=128):(restL C).length=88:=by unfold restL;rw[A3s,A3H];omega
instance(priority:=2000) instHd3_1:StT Tryz.prog 134 [(0,1),(1,64),(65,24)] ((.int .i64 0)::(zs 88).map bv):=⟨by kernel_rfl⟩
instance(priority:=2000) instHd3_2:ZeroT Tryz.prog 134 (hdV 0 (zs 88)):=⟨by kernel_rfl⟩
theorem bytes_pref{w:World}{g n c:Nat}{L:List UInt8}{t:TypeId}{fr:Nat × Nat}(hg:blk w g=some (.cells (bvs L) t fr))(hL:n<=L.length)(hc:n<=c):BytesAt w (.slice (some ⟨g,0,none⟩) n c) (L.take n):=by
 have:=Y2 (o:=0) (n:=n) (c:=c) hg E9 hc
 rwa [A4Y] at this
theorem r_convI{P:Program}{o:Oper}{a:Act}{w:World}{s t:TypeId}{x:Operand}{k ks:IntKind}{n q:Int}(hop:o.op=.convert s t x)(hx:evO a x=some (.int k n))(hs:IntT P s ks)(ht:IntT P t .i64)(hq:wrap64 n=q):(execOp a.eval o).run P w=.ok (.value (.int .i64 q)) w:=by
 subst hq
 unfold execOp;rw[hop]
 simp only[F4 hx,convert,Sem.run_bind,run_underlying hs.is,run_underlying ht.is,Result.andThen_ok,Conv.intToInt]
 rw[show IntKind.i64.wrap n=wrap64 n by rw[IntKind.wrap_i64];unfold wrap64;omega]
 rfl
theorem hd_ovw(n:Int)(X l:List UInt8)(o:Nat):ovw (hdV n X) (1+o) l=hdV n (X.take o++(l++X.drop (o+l.length))):=by
 unfold ovw hdV
 show ((_::X.map bv).take (1+o)++(l.map bv++(_::X.map bv).drop (1+o+l.length))).toArray=_
 rw[Nat.add_comm 1 o,List.take_succ_cons,show o+1+l.length=(o+l.length)+1 by omega,A5p]
 simp[A5g,A5a]
def hdRes(key C:List UInt8):Value:=if 0<=cntL C/\tagL key (C.take 96)=C.drop 96 then .tuple #[.agg (hdV (cntL C) (restL C)),.bool true] else .tuple #[.agg (hdV 0 (zs 88)),.bool false]
theorem hdRes_pos{key C:List UInt8}(h1:0<=cntL C)(h2:tagL key (C.take 96)=C.drop 96):hdRes key C=.tuple #[.agg (hdV (cntL C) (restL C)),.bool true]:=if_pos ⟨h1,h2⟩
theorem hdRes_neg{key C:List UInt8}(h:¬(0<=cntL C/\tagL key (C.take 96)=C.drop 96)):hdRes key C=.tuple #[.agg (hdV 0 (zs 88)),.bool false]:=if_neg h
theorem hd_fill(n:Int):Instr.fill ((#[(0,1),(1,64),(65,24)]:Array (Nat × Nat))[·]?) (.int .i64 0::(zs 88).map bv).toArray [(0,.int .i64 n)]=some (hdV n (zs 88)) :=
 A0r (place:=fun i=>[(0,1),(1,64),(65,24)].toArray[i]?) (cs:=.int .i64 n::(zs 88).map bv) (FillS.one (off:=0) rfl rfl F0 rfl FillS.nil)
theorem hd_built(n:Int):Tryz.prog.built 134 [(0,.int .i64 n)]=some (hdV n (zs 88)):=A0e (pl:=[(0,1),(1,64),(65,24)]) (z:=.int .i64 0::(zs 88).map bv) E5 (hd_fill n)
theorem hd_built0:Tryz.prog.built 134 []=some (hdV 0 (zs 88)):=A0e (pl:=[(0,1),(1,64),(65,24)]) (z:=.int .i64 0::(zs 88).map bv) E5 (A0r (cs:=.int .i64 0::(zs 88).map bv) FillS.nil)
attribute [local irreducible] hdRes hdV
theorem A3b(key:List UInt8)(hk:key.length<=1000000)(C:List UInt8)(hC:C.length=128)(kv:Value)(w0:World)(hkv:BytesAt w0 kv key) :
  Calls Tryz.prog 194 #[kv,.agg (bvs C)] w0 fun e w'=>e=.returned (hdRes key C)/\Below w0.heap.size w0 w':=by
 have hS:=St.start w0
 have s1:csz (bvs C)=128:=by rw[F3,hC]
 have lT:(C.take 96).length=96:=by rw[A3s];omega
 have lD:(C.drop 96).length=32:=by rw[A3H];omega
 have hTne:C.take 96≠[]:=by intro e;rw[e] at lT;cases lT
 have hgl:=K5 key (C.take 96)
 have l8:(C.take 8).length=8:=by rw[A3s];omega
 have hcn:cntL C=wrap64 (beN (C.take 8):Int):=rfl
 have hpos:=@hdRes_pos key C
 have hneg':=@hdRes_neg key C
 obtain⟨RV,hRV⟩:∃RV,hdRes key C=RV:=⟨_,rfl⟩
 rw[hRV] at hpos hneg' |-
 have hRl:=A1Q hC
 have hRd:restL C=(C.drop 8).take 88:=rfl
 have hCd:∀(w:World)(b:Nat)(o m:Nat),o+m=128->blk w b=some (.cells (bvs C) 36 (0,0))->BytesAt w (.slice (some ⟨b,o,none⟩) m m) (C.drop o):=fun w b o m hom hb=>by
  have:=Y2 (o:=o) (n:=m) (c:=m) hb E9 (A3t _)
  rwa [A3B (by rw[A3H];omega)] at this
 go_enter Tryz.func194,Tryz.ntmps194
 refine Zdsm ?_;clear hS;intro _ b w b w _ _ b w hS
 have htg:=A1M key hk kv [.slice (some ⟨_,0,none⟩) 96 128] [C.take 96] F0 E6 _ 0 1 _ _ _ _ (hkv.below hS.below) (PartsAt.cons (bytes_pref (hS.blk 2 rfl) E9 E9) hTne (PartsAt.nil _)) (hS.blk 0 rfl) (fun j v h=>by rw[A3x,A3o];exact h) F0
 rw[show [C.take 96].flatten=C.take 96 by simp] at htg
 obtain⟨G,hG⟩:∃G,tagL key (C.take 96)=G:=⟨_,rfl⟩
 rw[hG] at htg hgl hpos hneg'
 have s7:csz (bvs G)=32:=by rw[F3,hgl]
 have s9:csz (bvs (zs 32))=32:=by rw[F3,zs_len]
 (refine g_calls hS (htg) ?_;clear hS;intro w hS)
 obtain⟨n,hn⟩:∃n,cntL C=n:=⟨_,rfl⟩
 rw[hn] at hcn hpos hneg'
 repeat' (first|refine Zasm ?_|(refine Zks ?_;clear hS;intro b w hS)|(refine Ztsm ?_;clear hS;intro w hS)|(refine Zll ?_;first|(refine g_calls hS ((A1P _ (C.take 8) _ (bytes_pref (n:=8) (c:=128) (own_st.blk 3 hS rfl) E9 E9) E9).mono (fun e w' h=>⟨h.1,h.2 ▸ Below.refl _ _⟩)) ?_;clear hS;intro w hS)|(refine Stp.go stp_list F1 F1 (r_convI F1 F1 E5 E5 hcn.symm) ?_;refine F2 ?_))|(refine Zg ?_;go_step)|fail)
 rename_i bC z1 bR z2 bP z3 z4 z5 z6 KK1 hKK1 KK hKK
 have hGne:G≠[]:=by intro e;rw[e] at hgl;cases hgl
 have sH:∀(n:Int)(X:List UInt8),X.length=88->csz (hdV n X)=89:=fun n X h=>by rw[J3,h]
 have sH0:=sH 0 (zs 88) (zs_len 88)
 obtain⟨q,hq⟩:∃q,decide (G=C.drop 96)=q:=⟨_,rfl⟩
 have heq:=fun w v1 v2 h1 h2=>equal_any G (C.drop 96) E9 hGne E9 v1 v2 w h1 h2
 rw[hq] at heq
 obtain⟨bG,hbG⟩:∃x,x=b:=⟨_,rfl⟩
 rw[<-hbG] at hS |-
 clear hbG
 by_cases hneg:n<0
 ·have hRV':=hneg' (fun h=>absurd h.1 (Int.not_le.2 hneg))
  clear hneg' hpos heq htg
  refine F6 8 E7 E7 ?_
  dsimp only[List.take,List.drop]
  iterate 8 (refine ZQm ?_)
  refine Zn own_st hS ?_
  clear hS
  intro pB w hS
  try dsimp only
  repeat' (first|(refine Zll ?_;first|(refine Stp.go stp_list F1 F1 (L8 F1 F1 hd_built0) ?_;refine F2 ?_)|(refine I1 stp_list own_st hS ?_ (hv:=N3 _ _);clear hS;intro w hS;refine F2 ?_))|refine Zasm ?_|(refine Zg ?_;go_step)|fail)
  exact J1 (n:=89) Tryz.results194 E7 (.inl rfl) _ _ _ _ rfl rfl (hS.blk 2 rfl) (by rw[<-H5];exact sH0) ⟨by rw[hRV'];rfl,hS.below⟩
 ·cases q with
  | false =>
   have hne:¬G=C.drop 96:=of_decide_eq_false hq
   have hRV':=hneg' (fun h=>hne h.2)
   clear hneg' hpos htg
   refine F6 8 E7 E7 ?_
   dsimp only[List.take,List.drop]
   iterate 8 (first|(refine Zw ?_;apply Exists.intro;refine⟨fun pB w' hw' hF=>?_,?_⟩;(focus (have hZ:=(own_st).call hS hw';exact(G8 (heq _ (.slice (some ⟨bG,0,none⟩) 32 32) (.slice (some ⟨bC,96,none⟩) 32 32) (I4 (hZ.blk 0 rfl) hgl) (hCd _ bC 96 32 E9 (hZ.blk 3 rfl))))));refine Zo ?_)|refine ZQm ?_)
   refine Zn own_st hS ?_
   clear hS
   intro pB w hS
   try dsimp only
   repeat' (first|(refine Zll ?_;first|(refine Stp.go stp_list F1 F1 (L8 F1 F1 hd_built0) ?_;refine F2 ?_)|(refine I1 stp_list own_st hS ?_ (hv:=N3 _ _);clear hS;intro w hS;refine F2 ?_))|refine Zasm ?_|(refine Zg ?_;go_step)|fail)
   exact J1 (n:=89) Tryz.results194 E7 (.inl rfl) _ _ _ _ rfl rfl (hS.blk 2 rfl) (by rw[<-H5];exact sH0) ⟨by rw[hRV'];rfl,hS.below⟩
  | true =>
   have hye:G=C.drop 96:=of_decide_eq_true hq
   have hRV':=hpos (Int.not_lt.1 hneg) hye
   clear hneg' hpos htg
   refine F6 8 E7 E7 ?_
   dsimp only[List.take,List.drop]
   iterate 8 (first|(refine Zw ?_;apply Exists.intro;refine⟨fun pB w' hw' hF=>?_,?_⟩;(focus (have hZ:=(own_st).call hS hw';exact(G8 (heq _ (.slice (some ⟨bG,0,none⟩) 32 32) (.slice (some ⟨bC,96,none⟩) 32 32) (I4 (hZ.blk 0 rfl) hgl) (hCd _ bC 96 32 E9 (hZ.blk 3 rfl))))));refine Zo ?_)|refine ZQm ?_)
   refine Zn own_st hS ?_
   clear hS
   intro pB w hS
   try dsimp only
   have sHn:=sH n (zs 88) (zs_len 88)
   repeat' (first|(refine Zll ?_;first|(refine Stp.go stp_list F1 F1 (L8 F1 F1 (hd_built n)) ?_;refine F2 ?_)|(refine I1 stp_list own_st hS ?_ (hv:=N3 _ _);clear hS;intro w hS;refine F2 ?_))|refine Zasm ?_|(refine Zks ?_;clear hS;intro b w hS)|(refine Zg ?_;go_step)|fail)
   obtain⟨b8,hb8⟩:∃x,x=b:=⟨_,rfl⟩
   rw[<-hb8] at hS |-
   clear hb8 heq hkv hcn
   obtain⟨R,hR⟩:∃R,restL C=R:=⟨_,rfl⟩
   rw[hR] at hRl hRd hRV'
   clear hR
   go_loopw [9,10,29] (fun u9 u10 u29 wr=>∃k:Nat,k<=2/\u29=.int .i64 (k:Int)/\u9=.int .i64 ((8+32*k:Nat):Int)/\St w0 wr [(b8,hdV n (R.take (32*k)++zs (88 - 32*k)),134),(bR,hdV 0 (zs 88),134),(bC,bvs C,36)]) (fun _ _ u29 _=>2 - (intOf u29).toNat)
   case atStart=>exact⟨0,by omega,rfl,rfl,by rw[Nat.mul_zero,A4g,A3q];exact(hS.erase 1).erase 1⟩
   case round =>
    clear hS
    obtain⟨k,hk2,rfl,rfl,hS⟩:=hrel
    have lk:(R.take (32*k)).length=32*k:=by rw[A3s];omega
    have s5:=sH n (R.take (32*k)++zs (88 - 32*k)) (by rw[A3k,lk,zs_len];omega)
    by_cases hlt:k<2
    ·have hr:(C.drop (8+32*k)).take 32=(R.drop (32*k)).take 32:=by
      rw[hRd,<-A5i,List.drop_take,List.take_take,A5j E9]
     obtain⟨r,hrr⟩:∃r,(R.drop (32*k)).take 32=r:=⟨_,rfl⟩
     have lr:r.length=32:=by rw[<-hrr,A3s,A3H];omega
     have hnx:ovw (hdV n (R.take (32*k)++zs (88 - 32*k))) (1+k*32) ((C.drop (8+32*k)).take 32)=hdV n (R.take (32*(k+1))++zs (88 - 32*(k+1))):=by
      rw[hr,hrr,hd_ovw,lr,A5w k 32,A4x lk]
      have e1:R.take (32*(k+1))=R.take (32*k)++r:=by rw[<-hrr,show 32*(k+1)=32*k+32 by omega,A5C]
      have e2:(R.take (32*k)++zs (88 - 32*k)).drop (32*k+32)=zs (88 - 32*(k+1)):=by
       rw[A4U,A3M E9,A3q,lk]
       unfold zs
       rw[A4o]
       congr 1;omega
      rw[e1,e2,A3K]
     refine Zdsm ?_;intro _ _ _
     refine X4 [0] [0,1,2,3,4,5,6,7,8,9] 7 E7 E7 F1 E7 A3 E7 (fun _ _ _ _ _ h=>h) ?_
     dsimp only[List.take,List.drop]
     iterate 7 (refine ZQm ?_)
     refine Zn own_st hS ?_
     clear hS
     intro pB w hS
     try dsimp only
     refine Q9 (i:=0) stp_list own_st hS F1 F1 F1 F1 E5 F1 (l:=C.drop (8+32*k)) (hCd _ bC (8+32*k) (128 - (8+32*k)) E9 (hS.blk 2 rfl)) (by rw[s5,hr,hrr,lr];omega) hnx A9 (show ((((C.drop (8+32*k)).take 32).length:Nat):Int)=32 by rw[hr,hrr,lr];rfl) ?_
     clear hS
     intro w hS
     refine F2 ?_
     refine Zdsm ?_;show _
     go_roundw
     case rel=>exact⟨k+1,by omega,by push_cast;rfl,by push_cast;simp[Int.mul_add,Int.add_assoc],hS⟩
     case measure=>(simp[intOf];omega)
    ·obtain rfl:k=2:=by omega
     have hr:(C.drop 72).take 24=R.drop 64:=by rw[hRd,List.drop_take,A5i]
     have lr:(R.drop 64).length=24:=by rw[A3H];omega
     have hnx:ovw (hdV n (R.take (32*2)++zs (88 - 32*2))) 65 ((C.drop 72).take 24)=hdV n R:=by
      have e2:(R.take (32*2)++zs (88 - 32*2)).drop (64+24)=[]:=A3M (by rw[A3k,lk,zs_len];omega)
      rw[hr,show 65=1+64 from rfl,hd_ovw,lr,A4x lk,e2,A3Q,A3O]
     have s8:=sH n R hRl
     refine Zdsm ?_;intro _ _ _ _ _
     refine F6 4 E7 E7 ?_
     dsimp only[List.take,List.drop]
     iterate 4 (refine ZQm ?_)
     refine Zn own_st hS ?_
     clear hS
     intro pB w hS
     try dsimp only
     refine Q9 (i:=0) stp_list own_st hS F1 F1 F1 F1 E5 F1 (l:=C.drop 72) (hCd _ bC 72 56 E9 (hS.blk 2 rfl)) (by rw[s5,hr,lr];omega) hnx A9 rfl ?_
     clear hS
     intro w hS
     refine F2 ?_
     repeat' (first|(refine Zll ?_;(refine I1 stp_list own_st hS ?_ (hv:=N3 _ _);clear hS;intro w hS;refine F2 ?_))|refine Zasm ?_|(refine Zg ?_;go_step)|fail)
     exact J1 (n:=89) Tryz.results194 E7 (.inl rfl) _ _ _ _ rfl rfl (hS.blk 1 rfl) (by rw[<-H5];exact s8) ⟨by rw[hRV'];rfl,hS.below⟩
end
section
attribute [local irreducible] shaL
theorem blockAt_any(u m:Nat)(hu:u<2)(hm:m<=16)(w0:World):Calls Tryz.prog 56 #[.int .i64 (u:Int),.int .i64 (m:Int)] w0 fun e w'=>e=.returned (.int .i64 (69+(u:Int)*24+(m:Int)))/\Below w0.heap.size w0 w':=by
 have hS:=St.start w0
 go_enter Tryz.func56,Tryz.ntmps56
 repeat' (first|refine Zasm ?_|(refine Zg ?_;go_step)|fail)
 go_ret
 exact⟨rfl,hS.below⟩
theorem treeAt_any(u:Nat)(hu:u<2)(w0:World):Calls Tryz.prog 199 #[.int .i64 (u:Int)] w0 fun e w'=>e=.returned (.int .i64 (85+24*(u:Int)))/\Below w0.heap.size w0 w':=by
 have hS:=St.start w0
 have hb:=fun w=>blockAt_any u 16 hu E9 w
 rw[show (69+(u:Int)*24+((16:Nat):Int))=85+24*(u:Int) by omega] at hb
 go_enter Tryz.func199,Tryz.ntmps199
 repeat' (first|refine Zasm ?_|(refine Zll ?_;(refine g_calls hS (hb _) ?_;clear hS;intro w hS))|(refine Zg ?_;go_step)|fail)
 go_ret
 exact⟨rfl,hS.below⟩
theorem unit_any(n:Int)(q:Bool)(hq:decide (0<=n/\n<2)=q)(w0:World):Calls Tryz.prog 55 #[.int .i64 n] w0 fun e w'=>e=.returned (.bool q)/\Below w0.heap.size w0 w':=by
 have hS:=St.start w0
 by_cases h1:0<=n
 ·by_cases h2:n<2
  ·obtain rfl:q=true:=by rw[<-hq];exact decide_eq_true ⟨h1,h2⟩
   go_enter Tryz.func55,Tryz.ntmps55
   repeat' (first|refine Zasm ?_|(refine Zg ?_;go_step)|fail)
   go_ret
   exact⟨rfl,hS.below⟩
  ·obtain rfl:q=false:=by rw[<-hq];exact decide_eq_false (fun h=>h2 h.2)
   go_enter Tryz.func55,Tryz.ntmps55
   repeat' (first|refine Zasm ?_|(refine Zg ?_;go_step)|fail)
   go_ret
   exact⟨rfl,hS.below⟩
 ·obtain rfl:q=false:=by rw[<-hq];exact decide_eq_false (fun h=>h1 h.1)
  go_enter Tryz.func55,Tryz.ntmps55
  repeat' (first|refine Zasm ?_|(refine Zg ?_;go_step)|fail)
  go_ret
  exact⟨rfl,hS.below⟩
theorem gone_any{V:Nat}{cs:Array Value}{ty:TypeId}{dn:Bool}(hd:cs[737]?=some (.bool dn))(w0:World)(hV:blk w0 V=some (.cells cs ty (0,0))):Calls Tryz.prog 54 #[.pointer (some ⟨V,0,none⟩)] w0 fun e w'=>e=.returned (.bool dn)/\Below w0.heap.size w0 w':=by
 have hS:=St.start w0
 go_enter Tryz.func54,Tryz.ntmps54
 repeat' (first|refine Zbsm ?_|(refine Zll ?_;((refine G3 stp_list (by exact((hS).far hV).1) ?_ (hv:=by(rw[A3r];exact hd)))<;>refine F2 ?_))|(refine Zll ?_;(refine Stp.go stp_list F1 F1 (r_eqPN F1 F1 Tryz.underlying87) ?_;refine F2 ?_))|(refine Zg ?_;go_step)|fail)
 go_ret
 exact⟨rfl,hS.below⟩
end
section
attribute [local irreducible] shaL
theorem cel_cutB{A:List UInt8}{i:Nat}(hA:A.length=1024)(hi:i<8):cut (bvs A) (i*128) 128=bvs (celX A i):=by
 have:=(celX_cut (cs:=bvs A) (o:=0) (X:=A) (k:=8) (i:=i) E9 hi (fun j x hj=>by rw[A3x];unfold bvs;rw[A3o,A3N,hj];rfl)).2.1
 rwa [A3x] at this
def cC(ct:Int)(M:List UInt8)(t0 t1 pv:Value):Array Value:=midC [.int .i64 ct] M [t0,t1,pv]
def diffN(o:Nat)(a c:List UInt8):Nat->List Pt
 | 0=>[]
 | i+1=>diffN o a c i++if celX a i=celX c i then [] else [((o:Int)+(i:Int),celX c i)]
def forP(T T':Nat->List UInt8):Nat->List Pt
 | 0=>[]
 | k+1=>forP T T' k++diffN (85+24*k) (T k) (T' k) 8
def forM(M:List UInt8)(T':Nat->List UInt8):Nat->List UInt8
 | 0=>M
 | k+1=>owL (forM M T' k) (32*k) (nd (T' k) 1)
theorem diffN_len(o:Nat)(a c:List UInt8):∀i,(diffN o a c i).length<=i
 | 0=>A3t 0
 | i+1=>by
  have:=diffN_len o a c i
  unfold diffN
  rw[A3k]
  split
  ·simp;omega
  ·simp;omega
theorem T3{o:Nat}{a c:List UInt8}(hc:c.length=1024):∀{i:Nat},i<=8->∀x∈diffN o a c i,(o:Int)<=x.1/\x.1<(o:Int)+(i:Int)/\x.2.length=128
 | 0,_,x,hx=>by cases hx
 | i+1,hi,x,hx=>by
  unfold diffN at hx
  rcases A3Y.1 hx with hx|hx
  ·have:=T3 hc (show i<=8 by omega) x hx
   omega
  ·split at hx
   ·cases hx
   ·rw[A4p] at hx
    subst hx
    exact⟨by dsimp only;omega,by dsimp only;omega,celX_len (k:=8) E9 E9⟩
theorem A2W(T T':Nat->List UInt8):∀k,(forP T T' k).length<=8*k
 | 0=>A3t 0
 | k+1=>by
  have h1:=A2W T T' k
  have h2:=diffN_len (85+24*k) (T k) (T' k) 8
  unfold forP
  rw[A3k];omega
theorem forP_in{T T':Nat->List UInt8}(hT:∀k,(T' k).length=1024):∀{k:Nat},∀x∈forP T T' k,85<=x.1/\x.1<85+24*(k:Int)/\x.2.length=128
 | 0,x,hx=>by cases hx
 | k+1,x,hx=>by
  unfold forP at hx
  rcases A3Y.1 hx with hx|hx
  ·have:=forP_in hT x hx
   omega
  ·have:=T3 (hT k) (A3t 8) x hx
   omega
theorem Y6{M:List UInt8}{T':Nat->List UInt8}(hM:M.length=728)(hT:∀k,(T' k).length=1024):∀{k:Nat},k<=2->(forM M T' k).length=728
 | 0,_=>hM
 | k+1,h=>by
  have ih:=Y6 hM hT (show k<=2 by omega)
  have hn:=R3 (hT k) (show 1<32 by omega)
  unfold forM
  rw[K0 E9,ih]
theorem r_indexV{P:Program}{o:Oper}{a:Act}{w:World}{x y:Operand}{t n e e2:Nat}{cs:Array Value}{k:Nat}{v:Value}(hop:o.op=.index t x y)(hx:evO a x=some (.agg cs))(hy:evO a y=some (.int .i64 (k:Int)))(hu:P.underlying t=some (.array n e))(he:P.underlying e=some (.slice e2))(hs:(P.info? e).map (·.size)=some 1)(h0:k<n)(hv:cs[k]?=some v):(execOp a.eval o).run P w=.ok (.value v) w:=by
 have hagg:(isAgg e).run P w=.ok false w:=by
  unfold isAgg
  rw[Sem.run_bind,run_underlying he w]
  simp
 have hp:(part e cs k).run P w=.ok v w:=by simp[part,Sem.run_bind,hagg,hv]
 have h1:(Instr.index t (.agg cs) (.int .i64 (k:Int))).run P w=.ok v w:=by
  simp[Instr.index,asIntOf,run_underlying hu,h0,J7 hs,hp]
 unfold execOp;rw[hop]
 simp[F4 hx,F4 hy,h1]
section
variable{ct:Int}{M:List UInt8}{t0 t1 pv:Value}
theorem A2h(hM:M.length=728):csz (cC ct M t0 t1 pv)=732:=by unfold cC;rw[S7,hM];rfl
theorem cC_0:(cC ct M t0 t1 pv)[0]?=some (.int .i64 ct):=by unfold cC;rw[X7 F0];rfl
theorem cC_729(hM:M.length=728):(cC ct M t0 t1 pv)[729]?=some t0:=by unfold cC;rw[A0D (o:=0) (by simp[hM])];rfl
theorem cC_730(hM:M.length=728):(cC ct M t0 t1 pv)[730]?=some t1:=by unfold cC;rw[A0D (o:=1) (by simp[hM])];rfl
theorem cC_731(hM:M.length=728):(cC ct M t0 t1 pv)[731]?=some pv:=by unfold cC;rw[A0D (o:=2) (by simp[hM])];rfl
theorem cC_set0(n:Int):(cC ct M t0 t1 pv).setIfInBounds 0 (.int .i64 n)=cC n M t0 t1 pv:=by unfold cC;rw[A0U F0];rfl
theorem cC_set731(hM:M.length=728)(v:Value):(cC ct M t0 t1 pv).setIfInBounds 731 v=cC ct M t0 t1 v:=by unfold cC;rw[A0q (o:=2) (by simp[hM])];rfl
theorem cC_paste{x:List UInt8}{o q:Nat}(hq:q=1+o)(h:o+x.length<=M.length):paste (cC ct M t0 t1 pv) q (bvs x)=cC ct (owL M o x) t0 t1 pv:=by unfold cC;exact A1L F0 (by simpa using hq) h
theorem cC_trees(hM:M.length=728):cut (cC ct M t0 t1 pv) 729 2=#[t0,t1]:=cut_two (cC_729 hM) (cC_730 hM)
end
section
variable{rd:Rdr}{w00 w0:World}{g:G4}{F:Bool->Int->Bool->Prop}{N:Nat}{su:List UInt8}{l:List Pt}{co:List Int}{L:List Blk}
theorem forest_any(T T':Nat->List UInt8)(hT:∀k,(T k).length=1024)(hT':∀k,(T' k).length=1024)(tv tv':Nat->Value){C V so:Nat}{ct:Int}{M:List UInt8}{pv:Value}{tyC tyV:TypeId}{vcs:Array Value}{Lr:List Blk}{ps:List Pt}(hM:M.length=728)
  (hD:Dk rd w00 g F N su l co w0 ((C,cC ct M (tv' 0) (tv' 1) pv,tyC)::(Lr++L)))(hR:OwL putC 129 244 ps pv Lr)(hps:okP ps/\ps.length<=1000)(hV:(V,vcs,tyV)∈L)(hvs:so+731<=csz vcs)(hvt:∀k,k<2->vcs[so+729+k]?=some (tv k))(hA:∀k,k<2->TreeM L (tv k) (T k))(hB:∀k,k<2->TreeM L (tv' k) (T' k)) :
  Calls Tryz.prog 201 #[.pointer (some ⟨C,0,none⟩),.pointer (some ⟨V,so,none⟩)] w0 fun e w'=>∃pv' Lr',e=.returned .nilIface/\OwL putC 129 244 (ps++forP T T' 2) pv' Lr'/\Dk rd w00 g F N su l co w' ((C,cC ct (forM M T' 2) (tv' 0) (tv' 1) pv',tyC)::(Lr'++L)):=by
 have hS:=hD
 have hMk:=fun k (hk:k<=2)=>Y6 hM hT' hk
 have sC:=A2h (ct:=ct) (t0:=tv' 0) (t1:=tv' 1) (pv:=pv) hM
 have cT:=cC_trees (ct:=ct) (t0:=tv' 0) (t1:=tv' 1) (pv:=pv) hM
 have hix:∀k,k<2->(#[tv' 0,tv' 1]:Array Value)[k]?=some (tv' k):=fun k hk=>by
  match k,hk with
  | 0,_=>rfl
  | 1,_=>rfl
 obtain⟨M0,hM0⟩:∃x,forM M T' 2=x:=⟨_,rfl⟩
 rw[hM0]
 obtain⟨P0,hP0⟩:∃x,ps++forP T T' 2=x:=⟨_,rfl⟩
 rw[hP0]
 go_enter Tryz.func201,Tryz.ntmps201
 refine ZxKm ?_;intro _ _ _
 go_loopw [16] (fun u16 wr=>∃(k:Nat)(Lr:List Blk)(pv:Value),k<=2/\u16=.int .i64 (k:Int)/\OwL putC 129 244 (ps++forP T T' k) pv Lr/\Dk rd w00 g F N su l co wr ((C,cC ct (forM M T' k) (tv' 0) (tv' 1) pv,tyC)::(Lr++L))) (fun u16 _=>2 - (intOf u16).toNat)
 case atStart=>exact⟨0,Lr,pv,by omega,rfl,by show OwL putC 129 _ (ps++[]) pv Lr;rw[A3Q];exact hR,hS⟩
 case round =>
  clear hS hR hD sC cT
  obtain⟨k,Lr,pv,hk,rfl,hR,hS⟩:=hrel
  by_cases hlt:k<2
  ·have hMl:=hMk k hk
   have hMn:=hMk (k+1) E9
   have sC:=A2h (ct:=ct) (t0:=tv' 0) (t1:=tv' 1) (pv:=pv) hMl
   have hixk:=hix k hlt
   have hvk:=hvt k hlt
   have hpn:forP T T' (k+1)=forP T T' k++diffN (85+24*k) (T k) (T' k) 8:=rfl
   have hmn:forM M T' (k+1)=owL (forM M T' k) (32*k) (nd (T' k) 1):=rfl
   have hlk:=hT k
   have hlk':=hT' k
   have hAk:=hA k hlt
   have hBk:=hB k hlt
   have hpl:=A2W T T' k
   have hpi:=forP_in (T:=T) hT' (k:=k)
   have hMm:(C,cC ct (forM M T' k) (tv' 0) (tv' 1) pv,tyC)::(Lr++L)=(C,cC ct (forM M T' k) (tv' 0) (tv' 1) pv,tyC)::(Lr++L):=rfl
   obtain⟨A,hTA⟩:∃x,T k=x:=⟨_,rfl⟩
   obtain⟨D,hTD⟩:∃x,T' k=x:=⟨_,rfl⟩
   obtain⟨va,hva⟩:∃x,tv k=x:=⟨_,rfl⟩
   obtain⟨vd,hvd⟩:∃x,tv' k=x:=⟨_,rfl⟩
   obtain⟨Mk,hMk0⟩:∃x,forM M T' k=x:=⟨_,rfl⟩
   obtain⟨Pk,hPk0⟩:∃x,forP T T' k=x:=⟨_,rfl⟩
   rw[hTA] at hlk hpn hAk
   rw[hTD] at hlk' hpn hmn hBk
   rw[hva] at hvk hAk
   rw[hvd] at hixk hBk
   rw[hMk0] at hMl hmn sC hS
   rw[hPk0] at hpl hpi hpn hR
   have hVm:(V,vcs,tyV)∈Lr++L:=A3L _ hV
   repeat' (first|(refine Zll ?_;(refine Stp.go stp_list F1 F1 (r_indexV F1 F1 F1 Tryz.underlying140 Tryz.underlying139 E7 hlt hixk) ?_;refine F2 ?_))|refine ZbKm ?_|(refine Zll ?_;((refine G3 stp_list (by exact Own.mem own_dk hS (by repeat (first|exact hVm|refine A3l _ ?_))) ?_ (hv:=by(rw[A3r];exact hvk)))<;>refine F2 ?_))|(refine Zg ?_;go_step)|fail)
   refine F7 stp_list F1 F1 F1 F1 F1 E5 (sectors_any A va _ (hAk.at own_dk hS (fun x hx=>A3l _ (A3L _ hx)))) ?_
   rintro e w1 ⟨gA,rfl,hz1,hb1,hB1⟩
   refine⟨_,rfl,?_⟩
   replace hS:=own_dk.new hS hB1 hz1 hb1
   clear hB1 hz1 hb1
   refine F2 ?_
   refine ZdKm ?_;intro _ _
   refine F7 stp_list F1 F1 F1 F1 F1 E5 (sectors_any D vd _ (hBk.at own_dk hS (fun x hx=>A3l _ (A3l _ (A3L _ hx))))) ?_
   rintro e w1 ⟨gB,rfl,hz1,hb1,hB1⟩
   refine⟨_,rfl,?_⟩
   replace hS:=own_dk.new hS hB1 hz1 hb1
   clear hB1 hz1 hb1
   refine F2 ?_
   refine ZdKm ?_;intro _ _
   have hdn:∀i,diffN (85+24*k) A D (i+1)=diffN (85+24*k) A D i++if celX A i=celX D i then [] else [(((85+24*k:Nat):Int)+(i:Int),celX D i)]:=fun i=>rfl
   have hdl:=diffN_len (85+24*k) A D
   have hdi:=fun i (hi:i<=8)=>T3 (o:=85+24*k) (a:=A) hlk' hi
   have hd0:diffN (85+24*k) A D 0=[]:=rfl
   obtain⟨dN,hdN⟩:∃x,diffN (85+24*k) A D=x:=⟨_,rfl⟩
   rw[hdN] at hdn hdl hdi hd0 hpn
   go_loopw [43] (fun u43 wr=>∃(i:Nat)(Lr:List Blk)(pv:Value),i<=8/\u43=.int .i64 (i:Int)/\OwL putC 129 244 (ps++(Pk++dN i)) pv Lr/\Dk rd w00 g F N su l co wr ((gB,bvs D,36)::(gA,bvs A,36)::(C,cC ct Mk (tv' 0) (tv' 1) pv,tyC)::(Lr++L))) (fun u43 _=>8 - (intOf u43).toNat)
   case atStart=>exact⟨0,Lr,pv,by omega,rfl,by rw[hd0,A3Q];exact hR,hS⟩
   case round =>
    clear hS hR sC hVm
    obtain⟨i,Lr,pv,hi,rfl,hR,hS⟩:=hrel
    have sC:=A2h (ct:=ct) (t0:=tv' 0) (t1:=tv' 1) (pv:=pv) hMl
    by_cases hlt2:i<8
    ·have hdni:=hdn i
     have hdli:=hdl i
     have hdii:=hdi i E9
     have sA:csz (bvs A)=1024:=by rw[F3,hlk]
     have sD:csz (bvs D)=1024:=by rw[F3,hlk']
     have cA:=cel_cutB hlk hlt2
     have cD:=cel_cutB hlk' hlt2
     have lA:=celX_len (X:=A) (k:=8) E9 hlt2
     have lD:=celX_len (X:=D) (k:=8) E9 hlt2
     obtain⟨XA,hXA⟩:∃x,celX A i=x:=⟨_,rfl⟩
     obtain⟨XD,hXD⟩:∃x,celX D i=x:=⟨_,rfl⟩
     rw[hXA] at cA lA hdni
     rw[hXD] at cD lD hdni
     obtain⟨q,hq⟩:∃q,(!(XA == XD))=q:=⟨_,rfl⟩
     have htr:=fun w=>treeAt_any k hlt w
     refine ZdKm ?_;intro _ _ _ _ _
     refine F6 9 E7 E7 ?_
     dsimp only[List.take,List.drop]
     iterate 9 (first|(refine Zw ?_;apply Exists.intro;refine⟨fun pB w' hw' hF=>?_,?_⟩;(focus (have hZ:=(own_dk).call hS hw';exact(I9 (r_neA (n:=128) F1 F1 F1 E7 E7 lA lD hq))));refine Zo ?_)|refine ZQm ?_|refine ZXK ?_)
     refine Zn own_dk hS ?_
     clear hS
     intro pB w hS
     try dsimp only
     cases q with
     | false =>
      have hXe:XA=XD:=by simpa using hq
      rw[if_pos hXe,A3Q] at hdni
      refine ZdKm ?_;show _
      go_roundw
      case rel=>exact⟨i+1,Lr,pv,by omega,by push_cast;rfl,by rw[hdni];exact hR,hS⟩
      case measure=>first|(simp[intOf];done)|(simp[intOf];omega)
     | true =>
      have hXe:¬XA=XD:=by simpa using hq
      rw[if_neg hXe] at hdni
      have e85:(85+24*(k:Int))+(i:Int)=((85+24*k:Nat):Int)+(i:Int):=by push_cast;rfl
      have hpb:=A2F (85+24*(k:Int)+(i:Int)) lD
      have s1:(hdV (85+24*(k:Int)+(i:Int)) XD).size=129:=by rw[<-H5,J3,lD]
      have v731:=cC_731 (ct:=ct) (t0:=tv' 0) (t1:=tv' 1) (pv:=pv) hMl
      refine ZdKm ?_;show _
      refine X4 [0] [0,1,2,3,4,5,6,7,8,9,10,11,12,13,14,15,16,17,18] 15 E7 E7 F1 E7 A3 E7 (fun _ _ _ _ _ h=>h) ?_
      dsimp only[List.take,List.drop]
      iterate 15 (first|(refine Zw ?_;apply Exists.intro;refine⟨fun pB w' hw' hF=>?_,?_⟩;(focus (have hZ:=(own_dk).call hS hw';first|exact(G8 (htr _))|exact(I9 (L8 F1 F1 hpb))));refine Zo ?_)|refine ZQm ?_|refine ZXK ?_)
      refine Zn own_dk hS ?_
      clear hS
      intro pB w hS
      try dsimp only
      generalize pB _=nb at hS |-
      have hpo:okP (ps++(Pk++dN i))/\(ps++(Pk++dN i)).length<=2000:=by
       obtain⟨p1,p2⟩:=hps
       refine⟨fun x hx=>?_,by rw[A3k,A3k];omega⟩
       rcases A3Y.1 hx with hx|hx
       ·exact p1 x hx
       ·rcases A3Y.1 hx with hx|hx
        ·have:=hpi x hx;omega
        ·have:=hdii x hx;omega
      replace hS:=own_dk.perm hS (List.Perm.cons _ (List.perm_append_comm_assoc [_,_,_] Lr L))
      refine A1G (f:=putC) (x0:=(85+24*(k:Int)+(i:Int),XD)) (Lr:=Lr) (L:=[_,_,_]++L) stp_list own_dk hS hR F1 F1 F1 F1 E5 (fun a ha=>O4 (hpo.1 a ha).1) (O4 lD) A1F D9 ?_
      clear hS hR
      intro sv2 Lr2 w2 hR hS
      rw[e85,A3K,A3K,<-hdni] at hR
      replace hS:=own_dk.perm hS (List.perm_append_comm_assoc Lr2 [_,_,_] L)
      simp only[A3F,A3q] at hS
      obtain⟨p2,c2,hpv2⟩:=hR.slice
      subst hpv2
      have hst:=cC_set731 (ct:=ct) (t0:=tv' 0) (t1:=tv' 1) (pv:=pv) hMl (.slice p2 (ps++(Pk++dN (i+1))).length c2)
      refine F2 ?_
      refine ZdKm ?_;clear hS;intro w hS
      rw[hst] at hS
      go_roundw
      case rel=>exact⟨i+1,Lr2,_,by omega,by push_cast;rfl,hR,hS⟩
      case measure=>(simp[intOf];omega)
    ·obtain rfl:i=8:=by omega
     have hgp:=cC_paste (ct:=ct) (M:=Mk) (t0:=tv' 0) (t1:=tv' 1) (pv:=pv) (x:=nd D 1) (o:=32*k) (q:=1+k*32) E9 (by rw[R3 hlk' E9];omega)
     obtain⟨_,bD,cD2,spD,tyD,hvd2,f1,f2,hmD⟩:=hBk
     subst hvd2
     have hmD2:(bD,(D.map bv++spD).toArray,tyD)∈Lr++L:=A3L _ hmD
     have sT:=csz_tr D spD hlk'
     have cT:=cut_tr (sp:=spD) hlk' (show 1<32 by omega)
     have sN:csz (bvs (nd D 1))=32:=by rw[F3,R3 hlk' E9]
     have lN:=R3 hlk' (show 1<32 by omega)
     rw[A4J] at cT
     rw[<-hmn] at hgp
     obtain⟨ND,hND⟩:∃x,nd D 1=x:=⟨_,rfl⟩
     rw[hND] at cT hgp sN lN
     rw[<-hpn] at hR
     refine ZdKm ?_;intro _ _ _
     refine F6 10 E7 E7 ?_
     dsimp only[List.take,List.drop]
     iterate 10 (first|refine ZQm ?_|(refine Zw ?_;apply Exists.intro;refine⟨fun pB w' hw' hF=>?_,?_⟩;(focus (have hZ:=(own_dk).call hS hw';exact A0h (by exact Own.mem own_dk hZ (by repeat (first|exact hmD2|refine A3l _ ?_))) (hv:=by(exact cT))));refine Zo ?_))
     refine Zn own_dk hS ?_
     clear hS
     intro pB w hS
     try dsimp only
     refine ZdKm ?_;clear hS;intro w hS
     rw[hgp] at hS
     go_roundw
     case rel=>exact⟨k+1,Lr,pv,by omega,by push_cast;rfl,hR,own_dk.drop (own_dk.drop hS)⟩
     case measure=>(simp[intOf];omega)
  ·obtain rfl:k=2:=by omega
   refine ZdKm ?_;intro _ _ _
   rw[hP0] at hR
   rw[hM0] at hS
   go_ret
   exact⟨_,_,rfl,hR,hS⟩
end
end
end
section
open Go.RowKit
def lateO(i:Nat)(o:Oper):Oper:=⟨o.dst,o.op,o.type,o.pos,(o.after.toList++[(⟨i,.data⟩:Edge)]).toArray,o.guard⟩
def lateL(i:Nat):Nat->List Oper->List Oper
 | _,[]=>[]
 | 0,o::l=>lateO i o::l
 | s+1,o::l=>o::lateL i s l
def isExtract(o:Oper):Bool:=match o.op with|.extract .. => true|_=>false
def isStore(o:Oper):Bool:=match o.op with|.store .. => true|_=>false
section
variable{P:Program}{Q:Exit->Act->World->Prop}{i s:Nat}{l:List Oper}{lp:Nat}
theorem lateL_len:∀(s:Nat)(l:List Oper),(lateL i s l).length=l.length
 | _,[]=>by simp[lateL]
 | 0,_::_=>rfl
 | s+1,_::l=>by simp only[lateL,A3D,lateL_len s l]
theorem A1z:∀(s:Nat)(l:List Oper)(j:Nat),(lateL i s l)[j]?=(l[j]?).map fun o=>if j=s then lateO i o else o
 | _,[],j=>by simp[lateL]
 | 0,o::l,0=>by simp[lateL]
 | 0,o::l,j+1=>by simp[lateL]
 | s+1,o::l,0=>by simp[lateL]
 | s+1,o::l,j+1=>by
  simp only[lateL,A4M]
  rw[A1z s l j]
  simp only[Nat.add_right_cancel_iff]
theorem late_yielded(tmps:Array Value)(j:Nat):yielded (lateL i s l).toArray tmps j=yielded l.toArray tmps j:=by
 unfold yielded
 rw[A3o,A3o,A1z]
 cases l[j]? with
 | none=>rfl
 | some o =>
  have e:(if j=s then lateO i o else o).dst=o.dst:=by split<;>rfl
  simp only[A4I,Option.bind_some,e]
theorem late_wanted(o:Oper)(tmps:Array Value):Region.wanted o (yielded (lateL i s l).toArray tmps)=Region.wanted o (yielded l.toArray tmps):=by
 unfold Region.wanted
 cases o.guard with
 | none=>rfl
 | some g=>simp only[late_yielded]
theorem A0i{x:Array Bool}{j:Nat}(h:j∈Region.ready .any l.toArray x)(hj:j≠s\/x.getD i false=true):j∈Region.ready .any (lateL i s l).toArray x:=by
 rw[mem_ready] at h |-
 obtain⟨h0,o,ho,hall⟩:=h
 rw[A3o] at ho
 refine⟨h0,if j=s then lateO i o else o,by rw[A3o,A1z,ho];rfl,?_⟩
 intro e he hb
 by_cases hjs:j=s
 ·rw[if_pos hjs] at he
  simp only[lateO,List.mem_toArray,A3Y,A4p] at he
  rcases he with he|rfl
  ·exact hall e (by simpa using he) hb
  ·exact hj.resolve_left (fun hh=>hh hjs)
 ·rw[if_neg hjs] at he
  exact hall e he hb
theorem late_ready'{x:Array Bool}{j:Nat}(h:j∈Region.ready .any (lateL i s l).toArray x):j∈Region.ready .any l.toArray x:=by
 rw[mem_ready] at h |-
 obtain⟨h0,o,ho,hall⟩:=h
 rw[A3o,A1z] at ho
 cases hl:l[j]? with
 | none=>rw[hl] at ho;cases ho
 | some o' =>
  rw[hl] at ho
  have ho:=Option.some.inj ho
  refine⟨h0,o',by rw[A3o];exact hl,fun e he hb=>hall e ?_ hb⟩
  rw[<-ho]
  split
  ·simp only[lateO,List.mem_toArray,A3Y]
   exact .inl (by simpa using he)
  ·exact he
theorem extract_is{o:Oper}(h:isExtract o=true):∃x n,o.op=.extract x n:=by
 unfold isExtract at h
 split at h
 ·next x n e=>exact⟨x,n,e⟩
 ·cases h
theorem store_is{o:Oper}(h:isStore o=true):∃t x y,o.op=.store t x y:=by
 unfold isStore at h
 split at h
 ·next t x y e=>exact⟨t,x,y,e⟩
 ·cases h
theorem extract_run{o:Oper}(h:isExtract o=true)(ρ:Operand->Value):(∃u,∀w,(execOp ρ o).run P w=.ok (.value u) w)\/∀w,∃x w',(execOp ρ o).run P w=.halt x w'/\∀v,x≠.panic v:=by
 obtain⟨x,n,e⟩:=extract_is h
 unfold execOp
 rw[e]
 simp only[Instr.extract]
 split
 ·next vs _ =>
  cases vs[n]? with
  | some u=>exact .inl ⟨u,fun w=>rfl⟩
  | none=>exact .inr fun w=>⟨_,_,rfl,fun v h=>by cases h⟩
 ·exact .inr fun w=>⟨_,_,rfl,fun v h=>by cases h⟩
end
end
end Go.Proofs.YtlfbfbbdpcihfaaGreat
