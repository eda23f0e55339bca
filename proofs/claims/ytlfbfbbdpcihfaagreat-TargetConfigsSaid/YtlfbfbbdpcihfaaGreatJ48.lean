/- Laws that the claim uses. No condition of their own. -/
import Derived.Test.YtlfbfbbdpcihfaaGreatJ47
set_option maxRecDepth 100000
set_option maxHeartbeats 8000000
set_option linter.all false
namespace Go.Proofs.YtlfbfbbdpcihfaaGreat
section
open Go.ChangeShapes Go.WideShapes Go.ChangeAt Go.RowKit
attribute [local irreducible] wpList wpListIn Oper.quietAt wpM
section
attribute [local irreducible] shaL tagL
theorem frm_len(k n c:Int){Y:List UInt8}(h:Y.length=64):(frmL k n c Y).length=72:=by
 unfold frmL rowL
 simp[fpre,H6,fsz,h]
theorem bytes_one{ga g c:Nat}{Y:List UInt8}{sp:List Value}{ty ty2:TypeId}{fr fr2:Nat × Nat}(lY:Y.length=64)(hc:64<=c)(w0:World)(hA:blk w0 ga=some (.cells #[.int .i64 2,.int .i64 1,.int .i64 0,.slice (some ⟨g,0,none⟩) 64 c] ty fr))(hY:blk w0 g=some (.cells (Y.map bv++sp).toArray ty2 fr2)) :
  Calls Tryz.prog 100 #[.slice (some ⟨ga,0,none⟩) 1 1] w0 fun e w'=>∃(b cb:Nat)(p:Option Addr)(cp:Nat)(sp2:List Value),e=.returned (.slice (some ⟨b,0,none⟩) 1 cb)/\1<=cb/\w0.heap.size<=b/\blk w' b=some (.cells (([Value.slice p 72 cp]:List Value)++sp2).toArray 23 (0,0))/\Below w0.heap.size w0 w':=by
 have hS:=St.start w0
 go_enter Tryz.func100,Tryz.ntmps100
 refine Zdsm ?_;intro _ _ _
 refine wp_loop_rounds 2 ?_
 rw[rounds_succ]
 refine Zysm ?_;clear hS;intro _ _ b w w hS _ _
 refine F7 stp_list F1 F1 F1 F1 F1 E5 (enc_any 2 1 0 E9 E9 E9 Y E9 _ _ (F8 (pre:=[]) (off:=0) (n:=64) (c:=c) (hS.far hY).1 rfl rfl lY hc)) ?_
 rintro e w3 ⟨sv,rfl,ho,hBe⟩
 obtain⟨p8,c8,rfl⟩:=ho.slice
 rw[frm_len 2 1 0 lY]
 refine⟨_,rfl,?_⟩
 replace hS:=hS.call hBe
 clear ho hBe
 refine F2 ?_
 refine Zdsm ?_;clear hS;intro b w hS
 refine Z6 stp_list own_st hS F1 F1 F1 F1 E5 (xs:=[.slice p8 72 c8]) (L9 (hS.blk 0 rfl) (fun j v h=>by rw[A3x];exact h)) F1 ⟨by omega,by unfold maxLen;omega,by omega⟩ ?_
 clear hS
 intro b' c' sp' w' h1 h2 h3 hS
 refine F2 ?_
 refine Zdsm ?_;show _
 rw[rounds_succ]
 refine Zdsm ?_;intro _ _
 go_ret
 exact⟨b',c',p8,c8,sp',rfl,h1,hS.low 0 rfl,hS.blk 0 rfl,hS.below⟩
def evT(tk t i:Int)(p:Option Addr)(c:Nat):List Value:=[.int .i64 tk,.int .i64 t,.int .i64 i,.slice p 72 c]
theorem told_one{X ga g c:Nat}{Y:List UInt8}{sp:List Value}{t:Int}{cs:Array Value}{ty ty2 ty3:TypeId}{fr fr2 fr3:Nat × Nat}(i:Int)(lY:Y.length=64)(hc:64<=c)(w0:World)(hX:blk w0 X=some (.cells cs ty3 fr3))(h4:cs[4]?=some (.int .i64 t))(hA:blk w0 ga=some (.cells #[.int .i64 2,.int .i64 1,.int .i64 0,.slice (some ⟨g,0,none⟩) 64 c] ty fr))(hY:blk w0 g=some (.cells (Y.map bv++sp).toArray ty2 fr2)) :
  Calls Tryz.prog 61 #[.pointer (some ⟨X,0,none⟩),.int .i64 i,.slice (some ⟨ga,0,none⟩) 1 1] w0 fun e w'=>∃(b cb:Nat)(p:Option Addr)(cp:Nat)(sp2:List Value),e=.returned (.slice (some ⟨b,0,none⟩) 1 cb)/\1<=cb/\w0.heap.size<=b/\blk w' b=some (.cells (evT 0 t i p cp++sp2).toArray 65 (0,0))/\Below w0.heap.size w0 w':=by
 have hS:=St.start w0
 have hb:=fun w (h:Below w0.heap.size w0 w)=>bytes_one lY hc w ((h.block ga (G1 hA)).trans hA) ((h.block g (G1 hY)).trans hY)
 go_enter Tryz.func61,Tryz.ntmps61
 refine Zdsm ?_;intro _ _ _ _ _
 refine F7 stp_list F1 F1 F1 F1 F1 E5 (hb _ hS.below) ?_
 rintro e w2 ⟨b1,cb1,p,cp,sp1,rfl,q0,q1,q2,q3⟩
 refine⟨_,rfl,?_⟩
 replace hS:=own_st.new hS q3 q1 q2
 clear q1 q2 q3
 refine F2 ?_
 refine Zdsm ?_;show _
 refine wp_loop_rounds 2 ?_
 rw[rounds_succ]
 refine Zxsm ?_;clear hS;intro _ _ b w hS
 refine Z6 stp_list own_st hS F1 F1 F1 F1 E5 (xs:=evT 0 t i p cp) (L9 (hS.blk 0 rfl) (fun j v h=>by rw[A3x];exact h)) F1 ⟨by omega,by unfold maxLen;omega,by omega⟩ ?_
 clear hS
 intro b' c' sp' w' h1 h2 h3 hS
 refine F2 ?_
 refine Zdsm ?_;show _
 rw[rounds_succ]
 refine Zdsm ?_;intro _ _
 go_ret
 exact⟨b',c',p,cp,sp',rfl,h1,hS.low 0 rfl,hS.blk 0 rfl,hS.below⟩
def noWait:Array Value:=#[.int .i64 0,.int .i64 0,.int .i64 0,.int .i64 0,.int .i64 0,.int .i64 0,.slice none 0 0,.int .i64 0,.int .i64 0,.int .i64 0,.int .i64 0,.int .i64 0,.bool false]
section
variable{Q:Nat}{sv fv:Value}{ty:TypeId}{fr:Nat × Nat}{w0:World}
theorem qtake_none(hQ:blk w0 Q=some (.cells #[sv,fv,.int .i64 0] ty fr)):Calls Tryz.prog 114 #[.pointer (some ⟨Q,0,none⟩)] w0 fun e w'=>e=.returned (.tuple #[.agg noWait,.bool false])/\Below w0.heap.size w0 w':=by
 have hl:=fun w (h:Below w0.heap.size w0 w)=>qlen_none (Q:=Q) w ((h.block Q (G1 hQ)).trans hQ)
 have hS:=St.start w0
 go_enter Tryz.func114,Tryz.ntmps114
 repeat' (first|refine Zasm ?_|(refine Zks ?_;clear hS;intro b w hS)|(refine Ztsm ?_;clear hS;intro w hS)|(refine Zll ?_;(refine g_calls hS (hl _ hS.below) ?_;clear hS;intro w hS))|(refine Zg ?_;go_step)|fail)
 exact M9 (n:=13) Tryz.results114 E7 (.inl rfl) _ _ _ _ rfl rfl (hS.blk 0 rfl) F1 ⟨rfl,hS.below⟩
theorem qdrop_none(i:Int)(hQ:blk w0 Q=some (.cells #[sv,fv,.int .i64 0] ty fr)):Calls Tryz.prog 66 #[.pointer (some ⟨Q,0,none⟩),.int .i64 i] w0 fun e w'=>(∃v,e=.returned v)/\Below w0.heap.size w0 w':=by
 have hl:=fun w (h:Below w0.heap.size w0 w)=>qlen_none (Q:=Q) w ((h.block Q (G1 hQ)).trans hQ)
 have hS:=St.start w0
 go_enter Tryz.func66,Tryz.ntmps66
 repeat' (first|refine Zasm ?_|(refine Zll ?_;(refine g_calls hS (hl _ hS.below) ?_;clear hS;intro w hS))|(refine Zg ?_;go_step)|fail)
 refine wp_loop_rounds 1 ?_
 rw[rounds_succ]
 repeat' (first|refine Zasm ?_|(refine Zll ?_;(refine g_calls hS (hl _ hS.below) ?_;clear hS;intro w hS))|(refine Zg ?_;go_step)|fail)
 go_ret
 exact⟨⟨_,rfl⟩,hS.below⟩
end
section
variable{X Q:Nat}{cs:Array Value}{sv fv:Value}{ty ty2:TypeId}{fr fr2:Nat × Nat}{w0:World}
theorem gone_no(hX:blk w0 X=some (.cells cs ty fr))(c3:cs[3]?=some (.bool false)):Calls Tryz.prog 60 #[.pointer (some ⟨X,0,none⟩)] w0 fun e w'=>e=.returned (.bool false)/\Below w0.heap.size w0 w':=by
 have hS:=St.start w0
 go_enter Tryz.func60,Tryz.ntmps60
 repeat' (first|refine Zbsm ?_|refine Zvs ?_|(refine Zll ?_;(refine Stp.go stp_list F1 F1 (r_eqPN F1 F1 Tryz.underlying83) ?_;refine F2 ?_))|(refine Zg ?_;go_step)|fail)
 go_ret
 exact⟨rfl,hS.below⟩
theorem turn_none(hX:blk w0 X=some (.cells cs ty fr))(c3:cs[3]?=some (.bool false))(c8:cs[8]?=some (.pointer (some ⟨Q,0,none⟩)))(hQ:blk w0 Q=some (.cells #[sv,fv,.int .i64 0] ty2 fr2)):Calls Tryz.prog 69 #[.pointer (some ⟨X,0,none⟩)] w0 fun e w'=>e=.returned (.slice none 0 0)/\Below w0.heap.size w0 w':=by
 have hg:=fun w (h:Below w0.heap.size w0 w)=>gone_no (X:=X) (w0:=w) ((h.block X (G1 hX)).trans hX) c3
 have ht:=fun w (h:Below w0.heap.size w0 w)=>qtake_none (Q:=Q) (w0:=w) ((h.block Q (G1 hQ)).trans hQ)
 unfold noWait at ht
 have hS:=St.start w0
 go_enter Tryz.func69,Tryz.ntmps69
 repeat' (first|refine Zbsm ?_|refine Zvs ?_|(refine Zks ?_;clear hS;intro b w hS)|(refine Ztsm ?_;clear hS;intro w hS)|(refine Zll ?_;first|(refine g_calls hS (hg _ hS.below) ?_;clear hS;intro w hS)|(refine g_calls hS (ht _ hS.below) ?_;clear hS;intro w hS))|(refine Zg ?_;go_step)|fail)
 go_ret
 exact⟨rfl,hS.below⟩
end
section
variable{Bd:Nat}{H:World->List Blk->Prop}(hH:Own Bd H){T TA:Nat}{TC:Array Value}{L:List Blk}{w0:World}{tyT:TypeId}
include hH in
theorem stamp_none(p:Option Addr)(hS:H w0 L):Calls Tryz.prog 34 #[.pointer p,.slice none 0 0] w0 fun e w'=>e=.returned (.slice none 0 0)/\H w' L:=by
 go_enter Tryz.func34,Tryz.ntmps34
 refine ZdHm ?_;intro _ _ _
 refine wp_loop_rounds 1 ?_
 rw[rounds_succ]
 refine ZdHm ?_;intro _ _
 go_ret
 exact⟨rfl,hS⟩
include hH in
theorem stamp_one{b cb:Nat}{tk t i:Int}{p:Option Addr}{c:Nat}{sp:List Value}(hc:1<=cb)(hTm:(T,TC,tyT)∈L)(c9:TC[9]?=some (.int .i64 tk))(hS:H w0 ((b,(evT 0 t i p c++sp).toArray,65)::L)):Calls Tryz.prog 34 #[.pointer (some ⟨T,0,none⟩),.slice (some ⟨b,0,none⟩) 1 cb] w0 fun e w'=>e=.returned (.slice (some ⟨b,0,none⟩) 1 cb)/\H w' ((b,(evT tk t i p c++sp).toArray,65)::L):=by
 have hsz:csz (evT 0 t i p c++sp).toArray=4+sp.length:=by unfold csz evT;simp;omega
 have hset:(evT 0 t i p c++sp).toArray.setIfInBounds 0 (.int .i64 tk)=(evT tk t i p c++sp).toArray:=by unfold evT;simp
 generalize (evT 0 t i p c++sp).toArray=E0 at *
 go_enter Tryz.func34,Tryz.ntmps34
 refine ZdHm ?_;intro _ _ _
 refine wp_loop_rounds 2 ?_
 rw[rounds_succ]
 refine ZxHm ?_;clear hS;intro w hS
 rw[rounds_succ]
 refine ZdHm ?_;intro _ _
 go_ret
 exact⟨rfl,hset ▸ hS⟩
include hH in
theorem tturn_any{C:Cf}{P k n X Q:Nat}{sv mv dv rv qs qf:Value}{CS cs:Array Value}{ty1 ty2 ty3:TypeId}(hn:C.n=(n:Int))(hn1:1<=n/\n<=100)(hk:k<=1000)(hX:CS[k % n]?=some (.pointer (some ⟨X,0,none⟩)))(hXm:(X,cs,ty2)∈L)(c3:cs[3]?=some (.bool false))(c8:cs[8]?=some (.pointer (some ⟨Q,0,none⟩)))(hQm:(Q,#[qs,qf,.int .i64 0],ty3)∈L)
  (hS:H w0 ((T,tgC P C sv mv dv (.slice (some ⟨TA,0,none⟩) n n) rv (k:Int),tyT)::(TA,CS,ty1)::L)):Calls Tryz.prog 36 #[.pointer (some ⟨T,0,none⟩)] w0 fun e w'=>e=.returned (.slice none 0 0)/\H w' ((T,tgC P C sv mv dv (.slice (some ⟨TA,0,none⟩) n n) rv ((k+1:Nat):Int),tyT)::(TA,CS,ty1)::L):=by
 have hat:=fun (w:World) (L':List Blk) (h:H w ((T,tgC P C sv mv dv (.slice (some ⟨TA,0,none⟩) n n) rv (k:Int),tyT)::(TA,CS,ty1)::L'))=>at_in (w0:=w) hn1.2 (hH.blk 0 h rfl) (hH.blk 1 h rfl) (Nat.mod_lt k E9) hX
 have htu:=fun w=>turn_any k n hn1.1 E9 E9 w
 have htn:=fun (w:World) (h:H w L)=>turn_none (w0:=w) (hH.mem h hXm) c3 c8 (hH.mem h hQm)
 have hst:=fun (w:World) (L':List Blk) (h:H w L')=>stamp_none hH (some ⟨T,0,none⟩) h
 have c1:(tgC P C sv mv dv (.slice (some ⟨TA,0,none⟩) n n) rv (k:Int))[1]?=some (.int .i64 (n:Int)):=by rw[<-hn];rfl
 have c9:(tgC P C sv mv dv (.slice (some ⟨TA,0,none⟩) n n) rv (k:Int))[9]?=some (.int .i64 (k:Int)):=rfl
 have sT:csz (tgC P C sv mv dv (.slice (some ⟨TA,0,none⟩) n n) rv (k:Int))=10:=rfl
 have hset:(tgC P C sv mv dv (.slice (some ⟨TA,0,none⟩) n n) rv (k:Int)).setIfInBounds 9 (.int .i64 ((k:Int)+1))=tgC P C sv mv dv (.slice (some ⟨TA,0,none⟩) n n) rv ((k+1:Nat):Int):=rfl
 rw[<-hset]
 clear hset
 generalize tgC P C sv mv dv (.slice (some ⟨TA,0,none⟩) n n) rv (k:Int)=TC at *
 go_enter Tryz.func36,Tryz.ntmps36
 refine ZdHm ?_;intro _ _ _
 refine F6 13 E7 E7 ?_
 dsimp only[List.take,List.drop]
 iterate 13 (first|(refine Zw ?_;apply Exists.intro;refine⟨fun pB w' hw' hF=>?_,?_⟩;(focus (have hZ:=(hH).call hS hw';first|exact(G8 (htu _))|exact(G8 (hat _ _ hZ))));refine Zo ?_)|refine ZQm ?_|refine ZXH ?_)
 refine Zn hH hS ?_
 clear hS
 intro pB w hS
 try dsimp only
 repeat' (first|refine ZaHm ?_|(refine Zll ?_;(refine g_callp stp_list hH hS (htn _ (hH.drop (hH.drop hS))) ?_;clear hS;intro w hS))|(refine Zg ?_;go_step)|fail)
 refine F7 stp_list F1 F1 F1 F1 F1 E5 (hst _ _ hS) ?_
 clear hS
 rintro e w2 ⟨rfl,hS⟩
 refine⟨_,rfl,?_⟩
 refine F2 ?_
 refine ZxHm ?_;clear hS;intro w hS
 go_ret
 exact⟨rfl,hS⟩
include hH in
theorem do_tick{C:Cf}{P k n X Q:Nat}{sv mv dv rv qs qf:Value}{CS cs:Array Value}{ty1 ty2 ty3:TypeId}(hn:C.n=(n:Int))(hn1:1<=n/\n<=100)(hk:k<=1000)(hX:CS[k % n]?=some (.pointer (some ⟨X,0,none⟩)))(hXm:(X,cs,ty2)∈L)(c3:cs[3]?=some (.bool false))(c8:cs[8]?=some (.pointer (some ⟨Q,0,none⟩)))(hQm:(Q,#[qs,qf,.int .i64 0],ty3)∈L)
  (hS:H w0 ((T,tgC P C sv mv dv (.slice (some ⟨TA,0,none⟩) n n) rv (k:Int),tyT)::(TA,CS,ty1)::L)):Calls Tryz.prog 8 #[.pointer (some ⟨T,0,none⟩),.agg #[.int .i64 2,.int .i64 0,.int .i64 0,.slice none 0 0,.int .i64 0,.slice none 0 0]] w0 fun e w'=>e=.returned (.slice none 0 0)/\H w' ((T,tgC P C sv mv dv (.slice (some ⟨TA,0,none⟩) n n) rv ((k+1:Nat):Int),tyT)::(TA,CS,ty1)::L):=by
 have htt:=fun (w:World) (x:Blk) (h:H w (x::(T,tgC P C sv mv dv (.slice (some ⟨TA,0,none⟩) n n) rv (k:Int),tyT)::(TA,CS,ty1)::L))=>tturn_any hH hn hn1 hk hX (L:=x::L) (A3l _ hXm) c3 c8 (A3l _ hQm) (Y5 hH h ((List.Perm.swap _ _ _).trans (.cons _ (.swap _ _ _))))
 generalize tgC P C sv mv dv (.slice (some ⟨TA,0,none⟩) n n) rv (k:Int)=TC at *
 generalize tgC P C sv mv dv (.slice (some ⟨TA,0,none⟩) n n) rv ((k+1:Nat):Int)=TC2 at *
 go_enter Tryz.func8,Tryz.ntmps8
 repeat' (first|refine ZaHm ?_|(refine ZkH ?_;clear hS;intro b w hS)|(refine Zll ?_;(refine Stp.go stp_list F1 F1 (r_eqPN F1 F1 Tryz.underlying30) ?_;refine F2 ?_))|(refine Zg ?_;go_step)|fail)
 refine F7 stp_list F1 F1 F1 F1 F1 E5 (htt _ _ hS) ?_
 clear hS
 rintro e w2 ⟨rfl,hS⟩
 refine⟨_,rfl,?_⟩
 refine F2 ?_
 refine ZdHm ?_;show _
 go_ret
 exact⟨rfl,own_keep hH hS [0,1] 3 rfl⟩
end
end
section
section
variable{P:Program}{o:Oper}{a:Act}{w:World}
theorem r_appendE2{x y:Operand}{t e size bytes n c c2:Nat}{p q:Addr}(hop:o.op=.call { callee:=.builtin .append,args:=#[x,y],argTypes:=#[t,t] })(hx:evO a x=some (.slice (some p) n c))(hy:evO a y=some (.slice (some q) 0 c2))(hT:SlT P t e size bytes)(hnc:n<=c):(execOp a.eval o).run P w=.ok (.value (.slice (some p) n c)) w:=by
 obtain⟨ht,inf,z,hie,hz,hsz,hby,hzs,hpos⟩:=elemB_iff hT.is
 exact A0T hop hx hy A8
end
theorem r_shl0{P:Program}{o:Oper}{a:Act}{w:World}{t t':TypeId}{x:Operand}(hop:o.op=.binOp .shl t x (.const (.int .u64 8)) t')(hx:evO a x=some (.int .i64 0)):(execOp a.eval o).run P w=.ok (.value (.int .i64 0)) w:=by
 have h0:wrap64 (((0:Nat):Int)*256)=0:=by unfold wrap64;rfl
 have h:=r_shlI (P:=P) (w:=w) (N:=0) hop hx (by unfold wrap64;rfl)
 rwa [h0] at h
theorem r_slice18{P:Program}{o:Oper}{a:Act}{w:World}{t:TypeId}{x lo:Operand}{b off c:Nat}(hop:o.op=.slice t x (some lo) none none)(hx:evO a x=some (.slice (some ⟨b,off,none⟩) 18 c))(hm:ElT P t 1)(hl:bnd a 0 (some lo)=some 18)(hc:18<=c):(execOp a.eval o).run P w=.ok (.value (.slice (some ⟨b,if c=18 then off else off+18,none⟩) 0 (c - 18))) w:=by
 by_cases h:c=18
 ·subst h
  rw[if_pos rfl]
  exact r_sliceE hop hx hm hl rfl ⟨rfl,rfl⟩
 ·rw[if_neg h]
  exact r_slice hop hx hm hl rfl ⟨by omega,by omega,by omega,by omega⟩ rfl rfl rfl
section
variable{r:List UInt8}{w0:World}
theorem first_16(hr:r.length=16){b o c:Nat}(hc:18<=c)(hv:BytesAt w0 (.slice (some ⟨b,o,none⟩) 18 c) ([0,16]++r)) :
  Calls Tryz.prog 155 #[.slice (some ⟨b,o,none⟩) 18 c] w0 fun e w'=>e=.returned (.int .i64 18)/\Below w0.heap.size w0 w':=by
 obtain⟨p,c',hs,_,_,hcell⟩:=hv
 simp only[Value.slice.injEq] at hs
 obtain⟨rfl,_,rfl⟩:=hs
 obtain⟨tb,ti,cs,ty,fr,e1,hb,hx⟩:=hcell F0
 simp only[Option.some.injEq,Addr.mk.injEq,and_true] at e1
 obtain⟨rfl,rfl⟩:=e1
 have x0:cs[o]?=some (.int .u8 0):=hx 0 0 rfl
 have x1:cs[o+1]?=some (.int .u8 16):=hx 1 16 rfl
 have hS:=St.start w0
 go_enter Tryz.func155,Tryz.ntmps155
 refine Zdsm ?_;intro _ _ _
 refine F6 12 E7 E7 ?_
 dsimp only[List.take,List.drop]
 iterate 12 (first|(refine Zw ?_;apply Exists.intro;refine⟨fun pB w' hw' hF=>?_,?_⟩;(focus (have hZ:=(own_st).call hS hw';exact(I9 (r_shl0 F1 F1))));refine Zo ?_)|refine ZQm ?_|refine ZXs ?_)
 refine Zn own_st hS ?_
 clear hS
 intro pB w hS
 try dsimp only
 refine Zdsm ?_;show _
 go_ret
 exact⟨rfl,hS.below⟩
theorem cloneE(q:Addr)(c:Nat):Calls Tryz.prog 22 #[.slice (some q) 0 c] w0 fun e w'=>∃g c' cs,e=.returned (.slice (some ⟨g,0,none⟩) 0 c')/\w0.heap.size<=g/\blk w' g=some (.cells cs 5 (0,0))/\True/\Below w0.heap.size w0 w':=by
 have hS:=St.start w0
 go_enter Tryz.func22,Tryz.ntmps22
 refine Zdsm ?_;clear hS;intro _ _ _ _ b w hS
 refine Stp.go stp_list F1 F1 (r_appendE2 F1 F1 F1 E5 (A3t _)) ?_
 refine F2 ?_
 refine Zdsm ?_;show _
 go_ret
 exact⟨b,0,_,rfl,hS.low 0 rfl,hS.blk 0 rfl,trivial,hS.below⟩
theorem takeRow_16(hr:r.length=16){v:Value}(hv:BytesAt w0 v ([0,16]++r)) :
  Calls Tryz.prog 102 #[v] w0 fun e w'=>∃g cg sp p2 c2,e=.returned (.tuple #[.slice (some ⟨g,0,none⟩) 16 cg,.slice p2 0 c2,.nilIface])/\16<=cg/\w0.heap.size<=g/\blk w' g=some (.cells (r.map bv++sp).toArray 5 (0,0))/\Below w0.heap.size w0 w':=by
 have hl:([0,16]++r:List UInt8).length=18:=by simp[hr]
 obtain⟨p,c,rfl,hc,hp0,hcell⟩:=id hv
 obtain⟨tb,ti,cs,ty,fr,rfl,hb,hx⟩:=hcell F0
 rw[hl] at hc hv |-
 have hv2:=bytes_from hv 2 E9
 rw[show (([0,16]++r:List UInt8).drop 2)=r from rfl] at hv2
 have hfi:=fun w (h:Below w0.heap.size w0 w)=>first_16 (w0:=w) hr hc (hv.below h)
 have hS:=St.start w0
 go_enter Tryz.func102,Tryz.ntmps102
 repeat' (first|refine Zasm ?_|(refine Zll ?_;(refine g_calls hS (hfi _ hS.below) ?_;clear hS;intro w hS))|(refine Zg ?_;go_step)|fail)
 have hS0:=hS
 rename World=>wq
 have hnr:r≠[]:=by intro e;rw[e] at hr;simp at hr
 have hck:=fun w h=>cloneK (.slice (some ⟨tb,ti+2,none⟩) (18 - 2) (c - 2)) r hnr E9 w h
 rw[hr] at hck
 refine MV.region_w_lit 8 [8,9,10] E7 E7 E7 ?_
 dsimp only[List.take,List.drop]
 iterate 8 (first|(refine MV.wpV_want (fun _=>rfl) (fun K hK=>?_);apply Exists.intro;refine⟨fun pB w' hw' hF=>?_,hK _ _ ?_⟩;(focus (have hZ:=(own_st).call hS hw';exact(I9 (r_slice18 F1 F1 E5 F1 hc))));clear hK K;refine Zo ?_)|refine ZV ?_|(refine MV.wpV_same (PhB wq.heap.size 16 5 (BytK r)) (O7) (fun _=>rfl) (fun bb w' hw' hF=>?_) ?_;(focus (have hZ:=(own_st).call hS hw';exact MV.yields_call (T5 (hck _ (hv2.below hZ.below)) hw')));refine Zo ?_)|(refine MV.wpV_same (PhB wq.heap.size 0 5 (fun _ _=>True)) (O7) (fun _=>rfl) (fun bb w' hw' hF=>?_) ?_;(focus (have hZ:=(own_st).call hS hw';exact MV.yields_call (T5 (cloneE ⟨tb,_,none⟩ (c - 18)) hw')));refine Zo ?_))
 refine MV.wpV_nil ?_
 intro bb w hcq hfq
 replace hS:=(own_st).call hS hcq
 try dsimp only
 have fX:=hfq (3,PhB wq.heap.size 16 5 (BytK r)) F0
 have fY:=hfq (7,PhB wq.heap.size 0 5 (fun _ _=>True)) F0
 dsimp only at fX fY
 obtain⟨X1,hX1⟩:∃x,bb (0+1+1+1)=x:=⟨_,rfl⟩
 obtain⟨Y1,hY1⟩:∃x,bb (0+1+1+1+1+1+1+1)=x:=⟨_,rfl⟩
 rw[hX1,hY1]
 rw[show bb 3=X1 from hX1] at fX
 rw[show bb 7=Y1 from hY1] at fY
 clear hfq hX1 hY1 hcq
 obtain⟨gx,cx,csx,rfl,q1,q2,q3,spx,rfl⟩:=fX
 obtain⟨gy,cy,csy,rfl,_,_,_⟩:=fY
 replace hS:=Own.take own_st hS hS0 q1 q2
 clear hS0 q1 q2
 (refine Zpl 8 ?_);refine G9 ?_
 (refine Zpl 9 ?_);refine G9 ?_
 (refine Zpl 10 ?_);refine G9 ?_
 refine K6 E7 ?_
 refine Zdsm ?_;show _
 exact bodyPost_ret (v:=.tuple #[.slice (some ⟨gx,0,none⟩) 16 cx,.slice (some ⟨gy,0,none⟩) 0 cy,.nilIface]) (by simp[results,Tryz.results102,go_sem]) rfl ⟨gx,cx,spx,_,_,rfl,by rw[<-hr];exact q3,hS.low 0 rfl,hS.blk 0 rfl,hS.below⟩
def dsz(i:Nat):Nat:=if i=1 then 4 else 1
def dvl(i:Nat):Int:=if i=2 then 0 else 1
def dX(i:Nat):List UInt8:=if i=0 then [1] else if i=1 then [0,0,0,1] else [0]
def dsuf(r:List UInt8):Nat->List UInt8
 | 0=>[1,0,0,0,1,0,0,16]++r
 | 1=>[0,0,0,1,0,0,16]++r
 | 2=>[0,0,16]++r
 | _=>[0,16]++r
def dnum:Nat->Array Value
 | 0=>#[.int .i64 0,.int .i64 0,.int .i64 0]
 | 1=>#[.int .i64 1,.int .i64 0,.int .i64 0]
 | 2=>#[.int .i64 1,.int .i64 1,.int .i64 0]
 | _=>#[.int .i64 1,.int .i64 1,.int .i64 0]
theorem d_next(r:List UInt8):∀{i:Nat},i<3->dsuf r i=dX i++dsuf r (i+1)/\(dX i).length=dsz i/\sN (dX i)=dvl i/\(dnum i).setIfInBounds i (.int .i64 (dvl i))=dnum (i+1)/\szd (dsz i)/\(#[Value.int .i64 1,.int .i64 4,.int .i64 1])[i]?=some (.int .i64 (dsz i:Int))/\csz (dnum i)=3
 | 0,_=>⟨rfl,rfl,by decide +kernel,rfl,.inl rfl,rfl,rfl⟩
 | 1,_=>⟨rfl,rfl,by decide +kernel,rfl,.inr (.inr (.inl rfl)),rfl,rfl⟩
 | 2,_=>⟨rfl,rfl,by decide +kernel,rfl,.inl rfl,rfl,rfl⟩
theorem dec_hello(hr:r.length=16){v:Value}(hv:BytesAt w0 v ([1,0,0,0,1,0,0,16]++r)) :
  Calls Tryz.prog 63 #[v] w0 fun e w'=>∃g cg sp,e=.returned (.tuple #[.agg #[.int .i64 1,.int .i64 1,.int .i64 0,.slice (some ⟨g,0,none⟩) 16 cg],.nilIface])/\16<=cg/\w0.heap.size<=g/\blk w' g=some (.cells (r.map bv++sp).toArray 5 (0,0))/\Below w0.heap.size w0 w':=by
 obtain⟨p0,c0,rfl,_⟩:=id hv.slice
 have hS:=St.start w0
 go_enter Tryz.func63,Tryz.ntmps63
 refine Zdsm ?_;clear hS;intro _ b w b w _ _ b w hS
 rename_i bt z1 bn z2 z3 z4
 obtain⟨bz,hbz⟩:∃x,x=b:=⟨_,rfl⟩
 rw[<-hbz] at hS |-
 clear hbz
 go_loopw [5,18] (fun u5 u18 wr=>∃(i:Nat)(Lb:List Blk),i<=3/\u18=.int .i64 (i:Int)/\(∀w Lx,St w0 w Lx->(∀x∈Lb,x∈Lx)->BytesAt w u5 (dsuf r i))/\St w0 wr ((bz,#[.int .i64 1,.int .i64 4,.int .i64 1],3)::(bn,dnum i,203)::(bt,#[.int .i64 0,.int .i64 0,.int .i64 0,.slice none 0 0],63)::Lb)) (fun _ u18 _=>3 - (intOf u18).toNat)
 case atStart=>exact⟨0,[],by omega,rfl,fun w Lx h _=>hv.below h.below,hS⟩
 case round =>
  clear hS
  obtain⟨i,Lb,hi,rfl,hby,hS⟩:=hrel
  obtain⟨p5,c5,rfl,_⟩:=id (hby _ _ hS D8).slice
  by_cases hlt:i<3
  ·obtain⟨e1,e2,e3,e4,e5,e6,e7⟩:=d_next r hlt
   have hls:16<=(dsuf r (i+1)).length/\(dsuf r (i+1)).length<=30:=by
    have:i=0\/i=1\/i=2:=by omega
    rcases this with rfl|rfl|rfl<;>simp[dsuf,hr]
   have hnx:dsuf r (i+1)≠[]:=by intro e;rw[e] at hls;simp at hls
   have hta:=fun w v (h:BytesAt w v (dsuf r i))=>take_any (dsz i) e5 (dX i) (dsuf r (i+1)) e2 hnx E9 v w (e1 ▸ h)
   rw[e3] at hta
   obtain⟨DN,hDN⟩:∃x,dnum i=x:=⟨_,rfl⟩
   rw[hDN] at e4 e7 hS
   refine Zxsm ?_;intro _ _ _ _ _
   refine F7 stp_list F1 F1 F1 F1 F1 E5 (hta _ _ (hby _ _ hS D8)) ?_
   rintro e w2 ⟨sv,rfl,ho,hBe⟩
   obtain⟨p8,c8,rfl⟩:=ho.slice
   refine⟨_,rfl,?_⟩
   refine F2 ?_
   obtain⟨Lr,hB2,hS2⟩:=ho.join hS hBe
   have hS3:=hS2.perm (A5c (l₁:=Lr))
   simp only[A3F] at hS3
   clear hS hS2 ho hBe
   have hS:=hS3
   clear hS3
   refine Zdsm ?_;clear hS;intro w hS
   rw[e4] at hS
   go_roundw
   case rel=>exact⟨i+1,Lb++Lr,by omega,by push_cast;rfl,fun w Lx h hx=>hB2.inn h (fun x hx2=>hx x (A3L _ hx2)),hS⟩
   case measure=>(simp[intOf];omega)
  ·obtain rfl:i=3:=by omega
   repeat' (first|refine Zasm ?_|(refine Zg ?_;go_step)|fail)
   refine F7 stp_list F1 F1 F1 F1 F1 E5 (takeRow_16 hr (hby _ _ hS D8)) ?_
   rintro e w2 ⟨g,cg,sp,p2,c2,rfl,q0,q1,q2,q3⟩
   refine⟨_,rfl,?_⟩
   replace hS:St w0 w2 ((g,(r.map bv++sp).toArray,5)::(bz,#[.int .i64 1,.int .i64 4,.int .i64 1],3)::(bn,#[.int .i64 1,.int .i64 1,.int .i64 0],203)::(bt,#[.int .i64 0,.int .i64 0,.int .i64 0,.slice none 0 0],63)::Lb):=own_st.new hS q3 q1 q2
   clear q1 q2 q3
   refine F2 ?_
   refine Zdsm ?_;clear hS;intro b w w hS _ _ _ _
   refine F7 stp_list F1 F1 F1 F1 F1 E5 (enc_any 1 1 0 E9 E9 E9 r E9 _ _ (F8 (pre:=[]) (off:=0) (n:=16) (c:=cg) (hS.blk 1 rfl) rfl rfl hr q0)) ?_
   rintro e w3 ⟨sv,rfl,ho,hBe⟩
   obtain⟨p8,c8,rfl⟩:=ho.slice
   refine⟨_,rfl,?_⟩
   replace hS:=hS.call hBe
   clear ho hBe
   refine F2 ?_
   refine Zdsm ?_;clear hS;intro w hS
   exact M9 (n:=4) Tryz.results63 E7 (.inl rfl) _ _ _ _ rfl rfl (hS.blk 4 rfl) F1 ⟨g,cg,sp,rfl,q0,hS.low 1 rfl,hS.blk 1 rfl,hS.below⟩
end
end
end
section
open Go.ChangeShapes Go.WideShapes Go.ChangeAt Go.RowKit
attribute [local irreducible] wpList wpListIn Oper.quietAt wpM
open Go.Maps
attribute [local irreducible] shaL tagL
section
variable{P:Program}{ops:Array Oper}{Q:Exit->Act->World->Prop}{S:World->Prop}{R:List Nat}{a:Act}{w:World}{o:Oper}
theorem h_loadR(i:Nat){n b off:Nat}{cs vs:Array Value}{t ty:TypeId}{fr:Nat × Nat}{x:Operand}(hS:S w)(hb:∀w,S w->blk w b=some (.cells cs ty fr))(hn:off+n<=csz cs)(hv:cut cs off n=vs)(h:WH P ops Q S (R.erase i) (a.put o.dst (.agg vs)) w)(hok:pullH ops R i=true:=by kernel_rfl)(hi':nthL ops.toList i=some o:=by rfl)(hop:o.op=.load t x:=by rfl)(hx:evO a x=some (.pointer (some ⟨b,off,none⟩)):=by rfl)(h1:RowT P t n:=by infer_instance)(hw:Region.wanted o (yielded ops a.tmps)=true:=by rfl)(hQ:∀(u:Value) c a w,Q (.panic c) (a.put o.dst u) w->Q (.panic c) a w:=by exact fun _ _ _ _ h=>h):WH P ops Q S R a w:=h_first i hok hi' hQ (.inl ⟨hw,fun w hw=>A0P hop hx h1 (hb w hw) hn hv⟩) hS h
theorem h_nil(i:Nat){b off:Nat}{x:Operand}(hS:S w)(h:WH P ops Q S (R.erase i) (a.put o.dst (.pointer (some ⟨b,off,none⟩))) w)(hok:pullH ops R i=true:=by kernel_rfl)(hi':nthL ops.toList i=some o:=by rfl)(hop:o.op=.nilCheck x:=by rfl)(hx:evO a x=some (.pointer (some ⟨b,off,none⟩)):=by rfl)(hw:Region.wanted o (yielded ops a.tmps)=true:=by rfl)(hQ:∀(u:Value) c a w,Q (.panic c) (a.put o.dst u) w->Q (.panic c) a w:=by exact fun _ _ _ _ h=>h):WH P ops Q S R a w:=h_first i hok hi' hQ (.inl ⟨hw,fun w _=>A2u hop hx⟩) hS h
theorem h_turn2{o2:Oper}(i j:Nat)(hok:turn2OK ops R i j=true)(hi':nthL ops.toList i=some o)(hj':nthL ops.toList j=some o2)(h1:wpList P ops (Exit.then (fun a w=>S w/\WH P ops Q S (R.erase i) a w) Q) [o] a w)(h2:wpList P ops (Exit.then (fun a w=>S w/\WH P ops Q S (R.erase j) a w) Q) [o2] a w):WH P ops Q S R a w:=by
 unfold turn2OK at hok
 simp only[A3A,beq_iff_eq] at hok
 obtain⟨⟨⟨⟨hrd,hset1⟩,hset2⟩,hlen1⟩,hlen2⟩:=hok
 unfold WH at h1 h2 |-
 rw[hlen1]
 rw[<-Nat.succ_inj.1 (hlen1.symm.trans hlen2)] at h2
 refine wpAnyH_all hrd F0 fun k hk=>?_
 rcases A3G.1 hk with rfl|hk
 ·rw[hset1]
  exact any_op hi' h1
 ·rw[A4p] at hk
  subst hk
  rw[hset2]
  exact any_op hj' h2
end
theorem bytesM_at{L:List Blk}{b c:Nat}{l:List UInt8}{sp:List Value}{ty:TypeId}(hm:(b,(l.map bv++sp).toArray,ty)∈L)(hc:l.length<=c):BytesM L (.slice (some ⟨b,0,none⟩) l.length c) l:=⟨b,0,c,_,_,rfl,hc,hm,fun i x h=>by
 rw[A3x,A3o,A3E (by rw[A3u];exact(A3n.1 h).1),A3N,h];rfl⟩
theorem tframe_any{rdp:Rdr}(hrp:RdPtr rdp){Bd:Nat}{H:World->List Blk->Prop}(hH:Own Bd H){B nn:Nat}{D:DataW Unit}{X Q G gy ny cy ca V:Nat}{t sd dr:Int}{xv qs qf:Value}{y r:List UInt8}{sp:List Value}{L:List Blk}{w0:World}{tyQ:TypeId}(hr:r.length=16)(hy1:1<=y.length/\y.length<=64)(hny:ny=y.length)(hcy:y.length<=cy)(hdr:0<=dr/\dr<=1000)
  (hD:∀z,D.atKey (.int .i64 1) z=.lit (.int .i64 (G:Int)))(hQm:(Q,#[qs,qf,.int .i64 0],tyQ)∈L)(hym:(gy,(y.map bv++sp).toArray,5)∈L){dv:Value}(hv:BytesM L dv ([1,0,0,0,1,0,0,16]++r))
  (hS:Mp H rdp B nn D w0 ((X,xC ca V t sd dr B Q (nob5++nob5),94)::(G,sessC t 1 xv (.slice (some ⟨gy,0,none⟩) ny cy),211)::L)):Calls Tryz.prog 35 #[.pointer (some ⟨X,0,none⟩),.int .i64 1,dv] w0 fun e w'=>∃(b cb:Nat)(p:Option Addr)(cp:Nat)(sp2:List Value)(CX CG:Array Value),e=.returned (.slice (some ⟨b,0,none⟩) 1 cb)/\1<=cb/\Mp H rdp B nn D w' ((b,(evT 0 t 1 p cp++sp2).toArray,65)::(X,CX,94)::(G,CG,211)::L):=by
 subst hny
 obtain⟨b0,o0,d0,cs0,ty0,rfl,_⟩:=id hv
 have hlen:([1,0,0,0,1,0,0,16]++r:List UInt8).length=24:=by simp[hr]
 rw[hlen] at hv |-
 have hM:=own_mp (rd:=rdp) (B:=B) (n:=nn) (D:=D) hH
 have hgo:=fun (w:World) (cs:Array Value) (h:blk w X=some (.cells cs 94 (0,0))) h3=>gone_no (w0:=w) h h3
 have hdw:=fun w=>draw_any sd dr w
 have lD:(drawL sd dr).length=32:=K5 _ _
 have hha:=fun w L' dv' h1 h2 h3=>handle_any hM (G:=G) (m:=1) (a:=.int .i64 t) (xv:=xv) (p:=some ⟨gy,0,none⟩) (ny:=y.length) (cy:=cy) (y:=y) hr hy1 lD (L:=L') (w0:=w) h1 (dv:=dv') h2 h3
 rw[show midC [.int .i64 t,.int .i64 1,xv,.slice (some ⟨gy,0,none⟩) y.length cy,.int .i64 0,.int .i64 0] (zs 32) [.int .i64 0]=sessC t 1 xv (.slice (some ⟨gy,0,none⟩) y.length cy) by unfold midC sessC bvs;simp] at hha
 generalize sessC t 1 xv (.slice (some ⟨gy,0,none⟩) y.length cy)=CG0 at *
 generalize drawL sd dr=DR at *
 have x3:(xC ca V t sd dr B Q (nob5++nob5))[3]?=some (.bool false):=rfl
 have x4:(xC ca V t sd dr B Q (nob5++nob5))[4]?=some (.int .i64 t):=rfl
 have x5:(xC ca V t sd dr B Q (nob5++nob5))[5]?=some (.int .i64 sd):=rfl
 have x6:(xC ca V t sd dr B Q (nob5++nob5))[6]?=some (.int .i64 dr):=rfl
 have x7:(xC ca V t sd dr B Q (nob5++nob5))[7]?=some (.map (some B)):=rfl
 have x8:(xC ca V t sd dr B Q (nob5++nob5))[8]?=some (.pointer (some ⟨Q,0,none⟩)):=rfl
 have sX:csz (xC ca V t sd dr B Q (nob5++nob5))=19:=rfl
 generalize xC ca V t sd dr B Q (nob5++nob5)=CX0 at *
 replace hH:=hM
 clear hM
 have hmp:∀w L',Mp H rdp B nn D w L'->Mp H rdp B nn D w L':=fun _ _ h=>h
 go_enter Tryz.func35,Tryz.ntmps35
 repeat' (first|refine ZbHm ?_|refine ZvH ?_|(refine Zll ?_;(refine g_callp stp_list hH hS (hgo _ _ (hH.blk 0 hS rfl) x3) ?_;clear hS;intro w hS))|(refine Zg ?_;go_step)|fail)
 refine s_lookS hrp hS hD F1 F1 Tryz.underlying90 F1 F1 ⟨by omega,by omega⟩ ?_
 refine F2 ?_
 refine ZdHm ?_;intro _ _ _
 refine F7 stp_list F1 F1 F1 F1 F1 E5 (dec_hello hr (hv.at hH hS D8)) ?_
 rintro e w2 ⟨g,cg,sp2,rfl,q0,q1,q2,q3⟩
 refine⟨_,rfl,?_⟩
 replace hS:=hH.new hS q3 q1 q2
 clear q1 q2 q3
 refine F2 ?_
 refine ZdHm ?_;clear hS;intro b w w hS _ _
 obtain⟨b9,hb9⟩:∃x,x=b:=⟨_,rfl⟩
 rw[<-hb9] at hS |-
 clear hb9
 refine h_start (fun w=>blk w X=some (.cells CX0 94 (0,0))/\blk w b9=some (.cells #[.int .i64 1,.int .i64 1,.int .i64 0,.slice (some ⟨g,0,none⟩) 16 cg] 63 (0,0))) [0,1,2,3,4,5,6,7,8,9,10,11,12,13] E7 E7 ?_
 intro w hcq
 replace hS:=Own.call hH hS hcq
 clear hcq
 have hI:=And.intro (hH.blk 2 hS rfl) (hH.blk 0 hS rfl)
 refine J8 0 hI ?_;refine H9 ?_
 refine h_loadR (n:=4) 1 hI (fun _ h=>h.2) (by exact A3t 4) F1 ?_;refine H9 ?_
 refine J8 2 hI ?_;refine H9 ?_
 refine h_nil 3 hI ?_;refine H9 ?_
 refine J8 4 hI ?_;refine H9 ?_
 refine A0t 5 hI (fun _ h=>h.1) (hv:=by rw[A3r];exact x5) ?_;refine H9 ?_
 refine J8 6 hI ?_;refine H9 ?_
 refine h_nil 7 hI ?_;refine H9 ?_
 refine J8 8 hI ?_;refine H9 ?_
 refine A0t 9 hI (fun _ h=>h.1) (hv:=by rw[A3r];exact x6) ?_;refine H9 ?_
 have hyM:=bytesM_at (c:=cy) hym hcy
 have hdM:=fun {L':List Blk} (h:(g,(r.map bv++sp2).toArray,5)∈L')=>bytesM_at (c:=cg) h E9
 rw[hr] at hdM
 clear hv
 refine h_turn2 10 12 E7 F1 F1 ?_ ?_
 focus
  repeat' (first|(refine Zll ?_;(refine g_callp stp_list hH hS (hdw _) ?_;clear hS;intro w hS))|(refine Zg ?_;go_step)|fail)
  refine⟨⟨hH.mem hS F0,hH.mem hS F0⟩,?_⟩
  refine h_turn2 11 12 E7 F1 F1 ?_ ?_
  focus
   refine F7 stp_list F1 F1 F1 F1 F1 E5 (hha _ _ _ (hyM.mono D8) (hdM F0) (Y5 hH hS (List.perm_middle (l₁:=[_,_,_])))) ?_
   clear hS
   rintro e w3 ⟨ga,gg,c,sp3,Y,CS,rfl,lY,q1,hS⟩
   refine⟨_,rfl,?_⟩
   refine F2 ?_
   refine ZdHm ?_;show _
   refine⟨⟨hH.mem hS F0,hH.mem hS F0⟩,?_⟩
   refine R7 12 E7 F1 ?_
   refine ZdHm ?_;clear hS;intro b w hS
   refine⟨⟨hH.mem hS F0,hH.mem hS F0⟩,?_⟩
   have hS5:Mp H rdp B nn D _ ((b,#[.slice none 0 0,.bool false,.bool false],158)::(ga,#[.int .i64 2,.int .i64 1,.int .i64 0,.slice (some ⟨gg,0,none⟩) 64 c],63)::(gg,(Y.map bv++sp3).toArray,5)::(X,CX0,94)::(b9,#[.int .i64 1,.int .i64 1,.int .i64 0,.slice (some ⟨g,0,none⟩) 16 cg],63)::(G,CS,211)::L):=own_keep hH hS [0,1,2,6,4,3] 7 rfl
   clear hS
  rotate_left
  focus
   refine ZdHm ?_;clear hS;intro b w hS
   refine⟨⟨hH.mem hS F0,hH.mem hS F0⟩,?_⟩
   refine R7 11 E7 F1 ?_
   refine F7 stp_list F1 F1 F1 F1 F1 E5 (hha _ _ _ (hyM.mono D8) (hdM F0) (Y5 hH hS (List.perm_middle (l₁:=[_,_,_,_])))) ?_
   clear hS
   rintro e w3 ⟨ga,gg,c,sp3,Y,CS,rfl,lY,q1,hS⟩
   refine⟨_,rfl,?_⟩
   refine F2 ?_
   refine ZdHm ?_;show _
   refine⟨⟨hH.mem hS F0,hH.mem hS F0⟩,?_⟩
   have hS5:Mp H rdp B nn D _ ((b,#[.slice none 0 0,.bool false,.bool false],158)::(ga,#[.int .i64 2,.int .i64 1,.int .i64 0,.slice (some ⟨gg,0,none⟩) 64 c],63)::(gg,(Y.map bv++sp3).toArray,5)::(X,CX0,94)::(b9,#[.int .i64 1,.int .i64 1,.int .i64 0,.slice (some ⟨g,0,none⟩) 16 cg],63)::(G,CS,211)::L):=own_keep hH hS [3,0,1,6,4,2] 7 rfl
   clear hS
 rotate_left 2
 focus
  refine ZdHm ?_;clear hS;intro b w hS
  refine⟨⟨hH.mem hS F0,hH.mem hS F0⟩,?_⟩
  refine R7 10 E7 F1 ?_
  repeat' (first|(refine Zll ?_;(refine g_callp stp_list hH hS (hdw _) ?_;clear hS;intro w hS))|(refine Zg ?_;go_step)|fail)
  refine⟨⟨hH.mem hS F0,hH.mem hS F0⟩,?_⟩
  refine R7 11 E7 F1 ?_
  refine F7 stp_list F1 F1 F1 F1 F1 E5 (hha _ _ _ (hyM.mono D8) (hdM F0) (Y5 hH hS (List.perm_middle (l₁:=[_,_,_,_])))) ?_
  clear hS
  rintro e w3 ⟨ga,gg,c,sp3,Y,CS,rfl,lY,q1,hS⟩
  refine⟨_,rfl,?_⟩
  refine F2 ?_
  refine ZdHm ?_;show _
  refine⟨⟨hH.mem hS F0,hH.mem hS F0⟩,?_⟩
  have hS5:Mp H rdp B nn D _ ((b,#[.slice none 0 0,.bool false,.bool false],158)::(ga,#[.int .i64 2,.int .i64 1,.int .i64 0,.slice (some ⟨gg,0,none⟩) 64 c],63)::(gg,(Y.map bv++sp3).toArray,5)::(X,CX0,94)::(b9,#[.int .i64 1,.int .i64 1,.int .i64 0,.slice (some ⟨g,0,none⟩) 16 cg],63)::(G,CS,211)::L):=own_keep hH hS [3,0,1,6,4,2] 7 rfl
  clear hS
 all_goals
  have hS:=hS5
  clear hS5
  refine R7 13 E7 F1 ?_
  refine ZdHm ?_;clear hS;intro w hS
  refine⟨⟨hH.mem hS F0,hH.mem hS F0⟩,?_⟩
  refine h_done E7 ?_
  repeat' (first|refine ZbHm ?_|(refine Zll ?_;((refine I8 stp_list hH hS ?_ (hv:=by rw[A3r];exact x6))<;>refine F2 ?_))|(refine ZtHm ?_;clear hS;intro w hS)|(refine Zg ?_;go_step)|fail)
  have y8:(CX0.setIfInBounds 6 (.int .i64 (dr+1)))[8]?=some (.pointer (some ⟨Q,0,none⟩)):=by rw[A4r E8];exact x8
  have y4:(CX0.setIfInBounds 6 (.int .i64 (dr+1)))[4]?=some (.int .i64 t):=by rw[A4r E8];exact x4
  generalize CX0.setIfInBounds 6 (.int .i64 (dr+1))=CX1 at *
  repeat' (first|refine ZbHm ?_|(refine Zll ?_;((refine I8 stp_list hH hS ?_ (hv:=by rw[A3r];exact y8))<;>refine F2 ?_))|fail)
  refine F7 stp_list F1 F1 F1 F1 F1 E5 (qdrop_none 1 (hH.mem hS (A3L [_,_,_,_,_,_] hQm))) ?_
  rintro e w4 ⟨⟨v4,rfl⟩,hB⟩
  refine⟨_,rfl,?_⟩
  replace hS:=hH.call hS hB
  clear hB
  refine F2 ?_
  refine ZdHm ?_;intro _ _
  refine F7 stp_list F1 F1 F1 F1 F1 E5 (told_one 1 lY q1 _ (hH.blk 3 hS rfl) y4 (hH.blk 1 hS rfl) (hH.blk 2 hS rfl)) ?_
  rintro e w5 ⟨be,cb,p,cp,sp5,rfl,k1,k2,k3,hB⟩
  refine⟨_,rfl,?_⟩
  replace hS:=hH.new hS hB k2 k3
  clear hB k2 k3
  refine F2 ?_
  refine ZdHm ?_;show _
  go_ret
  exact⟨be,cb,p,cp,sp5,CX1,CS,rfl,k1,own_keep hH hS [0,4,6] 7 rfl⟩
end
end Go.Proofs.YtlfbfbbdpcihfaaGreat
