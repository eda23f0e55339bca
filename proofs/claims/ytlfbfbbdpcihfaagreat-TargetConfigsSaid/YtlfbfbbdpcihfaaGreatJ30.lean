/- Laws that the claim uses. No condition of their own. -/
import Derived.Test.YtlfbfbbdpcihfaaGreatJ29
set_option maxRecDepth 100000
set_option maxHeartbeats 8000000
set_option linter.all false
namespace Go.Proofs.YtlfbfbbdpcihfaaGreat
section
open Go.ChangeShapes Go.WideShapes Go.ChangeAt Go.RowKit
attribute [local irreducible] wpList wpListIn Oper.quietAt wpM
open PK (okI)
theorem A2t{C:Cf}{k:Nat}:∀d,goodK C (k+d)=true->goodK C k=true
 | 0,h=>h
 | d+1,h=>by
  rw[<-A4K] at h
  unfold goodK at h
  rw[A3A] at h
  exact A2t d h.1
theorem goodC_bad{C:Cf}{k:Nat}(hk:k<C.secs.length)(h:secOk C k=false):goodC C=false:=by
 cases hg:goodC C
 ·rfl
 ·obtain⟨d,hd⟩:∃d,C.secs.length=k+1+d:=⟨C.secs.length - (k+1),by omega⟩
  unfold goodC at hg
  rw[hd] at hg
  have:=A2t d hg
  unfold goodK at this
  rw[h,Bool.and_false] at this
  cases this
theorem there_any(C:Cf)(hl:C.secs.length<=1000)(v:Value)(k:Int)(w0:World)(hv:CfgAt w0 v C) :
  Calls Tryz.prog 49 #[v,.int .i64 k] w0 fun e w'=>e=.returned (if goodC C=true then (if 0<=k/\k<=C.n - 1 then .nilIface else .iface 48 (.int .i64 1)) else .iface 48 (.int .i64 2))/\Below w0.heap.size w0 w':=by
 have hS:=St.start w0
 have hch:=fun w h=>PK.check_any C hl v w h
 have hvb:=fun (w:World) (hb:Below w0.heap.size w0 w)=>CfgAt.below hv hb
 have hw1:=fun w=>Q5 k 0 (C.n - 1) w
 obtain⟨sv,mv,dv,rfl,q⟩:=id hv
 cases hg:goodC C
 ·simp only[hg,Bool.false_eq_true,if_false] at hch |-
  go_enter Tryz.func49,Tryz.ntmps49
  repeat' (first|refine Zasm ?_|(refine Zks ?_;clear hS;intro b w hS)|(refine Zll ?_;(refine g_calls hS (hch _ (hvb _ hS.below)) ?_;clear hS;intro w hS))|(refine Zg ?_;go_step)|fail)
  go_ret
  exact⟨rfl,hS.below⟩
 ·obtain⟨n1,n2⟩:=goodK_nums (C:=C) (k:=C.secs.length) hg
  simp only[hg,if_true] at hch |-
  by_cases h1:0<=k/\k<=C.n - 1
  ·rw[if_pos h1]
   simp only[h1,and_self,decide_true] at hw1
   go_enter Tryz.func49,Tryz.ntmps49
   repeat' (first|refine Zasm ?_|(refine Zks ?_;clear hS;intro b w hS)|(refine Zll ?_;first|(refine g_calls hS (hch _ (hvb _ hS.below)) ?_;clear hS;intro w hS)|(refine g_calls hS (hw1 _) ?_;clear hS;intro w hS))|(refine Zg ?_;go_step)|fail)
   go_ret
   exact⟨rfl,hS.below⟩
  ·rw[if_neg h1]
   simp only[h1,decide_false] at hw1
   go_enter Tryz.func49,Tryz.ntmps49
   repeat' (first|refine Zasm ?_|(refine Zks ?_;clear hS;intro b w hS)|(refine Zll ?_;first|(refine g_calls hS (hch _ (hvb _ hS.below)) ?_;clear hS;intro w hS)|(refine g_calls hS (hw1 _) ?_;clear hS;intro w hS))|(refine Zg ?_;go_step)|fail)
   go_ret
   exact⟨rfl,hS.below⟩
end
section
open Go.ChangeShapes Go.WideShapes Go.ChangeAt Go.RowKit
attribute [local irreducible] wpList wpListIn Oper.quietAt wpM
open Go.Maps Go.ChangeMaps Go.MapKept
section
variable{rd:Rdr}{w00 w0:World}{g:G4}{N:Nat}{su:List UInt8}{l:List Pt}{co:List Int}{L:List Blk}
end
end
section
open Go.ChangeShapes Go.WideShapes Go.ChangeAt Go.RowKit
def nd(t:List UInt8)(i:Nat):List UInt8:=(t.drop (32*i)).take 32
def setS(t:List UInt8)(i:Nat)(x:List UInt8):List UInt8:=t.take (32*i)++(x++t.drop (32*i+32))
def nodeL(mk:List UInt8)(i:Nat)(l r:List UInt8):List UInt8:=if l=zs 32/\r=zs 32 then zs 32 else tagL mk ([2,UInt8.ofNat i]++(l++r))
theorem A1R(mk:List UInt8)(i:Nat)(l r:List UInt8):(nodeL mk i l r).length=32:=by
 unfold nodeL
 split
 ·exact zs_len 32
 ·exact K5 _ _
theorem R3{t:List UInt8}{i:Nat}(ht:t.length=1024)(hi:i<32):(nd t i).length=32:=by
 unfold nd;rw[A3s,A3H];omega
theorem setS_len{t x:List UInt8}{i:Nat}(ht:t.length=1024)(hi:i<32)(hx:x.length=32):(setS t i x).length=1024:=by
 unfold setS;rw[A3k,A3k,A3s,A3H];omega
theorem nd_setS{t x:List UInt8}{i:Nat}(ht:t.length=1024)(hi:i<32)(hx:x.length=32):nd (setS t i x) i=x:=by
 unfold nd setS
 rw[A5s D1,A4x hx]
theorem A2z{t x:List UInt8}{i j:Nat}(ht:t.length=1024)(hi:i<32)(hx:x.length=32)(hj:j<32)(hne:j≠i):nd (setS t i x) j=nd t j:=by
 have hl:=setS_len ht hi hx
 apply A5d
 intro k
 by_cases hk:k<32
 ·unfold nd
  rw[A4f,if_pos hk,A4f,if_pos hk,A4z,A4z]
  unfold setS
  rcases Nat.lt_or_gt_of_ne hne with h|h
  ·rw[A3E D1,A4f,if_pos E9]
  ·rw[A3P D1,A3s,A5j E9,A3P E9,A4z]
   congr 1;omega
 ·rw[A4C (by rw[R3 hl hj];omega),A4C (by rw[R3 ht hj];omega)]
theorem setS_nd{t:List UInt8}{i:Nat}(ht:t.length=1024)(hi:i<32):setS t i (nd t i)=t:=by
 unfold setS nd
 rw[<-A5i,A3O,A3O]
def climbK(mk t:List UInt8)(b:Nat)(leaf:List UInt8):Nat->List UInt8
 | 0=>t
 | k+1=>setS (climbK mk t b leaf k) ((16+b) / 2 ^ k) (if k=0 then leaf else nodeL mk ((16+b) / 2 ^ k) (nd (climbK mk t b leaf k) (2*((16+b) / 2 ^ k))) (nd (climbK mk t b leaf k) (2*((16+b) / 2 ^ k)+1)))
def climbL(mk t:List UInt8)(b:Nat)(leaf:List UInt8):List UInt8:=climbK mk t b leaf 5
theorem A1V{b:Nat}(hb:b<16)(k:Nat):(16+b) / 2 ^ k<32:=Nat.lt_of_le_of_lt (Nat.div_le_self _ _) E9
theorem path_half(b k:Nat):(16+b) / 2 ^ (k+1)=(16+b) / 2 ^ k / 2:=by rw[Nat.pow_succ,A5G]
theorem path_low{b:Nat}(hb:b<16)(k:Nat):(16+b) / 2 ^ (k+1)<16:=by
 rw[path_half]
 have:=A1V hb k
 omega
theorem path_five{b:Nat}(hb:b<16):(16+b) / 2 ^ 5=0:=by
 rw[Nat.div_eq_zero_iff];right;omega
theorem A0Y{mk t:List UInt8}{b:Nat}{leaf:List UInt8}(ht:t.length=1024)(hb:b<16)(hl:leaf.length=32):∀k,(climbK mk t b leaf k).length=1024
 | 0=>ht
 | k+1=>by
  rw[climbK]
  refine setS_len (A0Y ht hb hl k) (A1V hb k) ?_
  split
  ·exact hl
  ·exact A1R _ _ _ _
theorem climbL_len{mk t:List UInt8}{b:Nat}{leaf:List UInt8}(ht:t.length=1024)(hb:b<16)(hl:leaf.length=32):(climbL mk t b leaf).length=1024:=A0Y ht hb hl 5
def Proper(mk t:List UInt8):Prop:=∀i,1<=i->i<16->nd t i=nodeL mk i (nd t (2*i)) (nd t (2*i+1))
def ProperBut(mk t:List UInt8)(e:Nat):Prop:=∀i,1<=i->i<16->(∀j,i≠e / 2 ^ j)->nd t i=nodeL mk i (nd t (2*i)) (nd t (2*i+1))
theorem but_set{mk t x:List UInt8}{e:Nat}(ht:t.length=1024)(he:e<32)(hx:x.length=32)(h:ProperBut mk t e)(h2:e<16->x=nodeL mk e (nd t (2*e)) (nd t (2*e+1)))(h0:1<=e):ProperBut mk (setS t e x) (e / 2):=by
 intro i h1 hi hj
 have c1:2*i≠e:=fun h3=>hj 0 E6
 have c2:2*i+1≠e:=fun h3=>hj 0 E6
 rw[A2z ht he hx E9 c1,A2z ht he hx E9 c2]
 by_cases hie:i=e
 ·subst hie
  rw[nd_setS ht he hx]
  exact h2 hi
 ·rw[A2z ht he hx E9 hie]
  refine h i h1 hi fun j=>?_
  cases j with
  | zero=>simpa using hie
  | succ j =>
   have:=hj j
   rwa [A5G,A5w 2,<-Nat.pow_succ] at this
theorem A2E{b:Nat}(k:Nat)(hk:k<=4):1<=(16+b) / 2 ^ k:=by
 rw[Nat.le_div_iff_mul_le (Nat.two_pow_pos k),A4J]
 exact A3T (Nat.pow_le_pow_right E9 hk) E9
theorem climb_but{mk t:List UInt8}{b:Nat}{leaf:List UInt8}(ht:t.length=1024)(hb:b<16)(hl:leaf.length=32)(hp:Proper mk t):∀k,k<=5->ProperBut mk (climbK mk t b leaf k) ((16+b) / 2 ^ k)
 | 0,_=>fun i h1 hi _=>hp i h1 hi
 | k+1,h=>by
  have ih:=climb_but ht hb hl hp k E9
  have hlk:=A0Y (mk:=mk) ht hb hl k
  rw[path_half,climbK]
  refine but_set hlk (A1V hb k) ?_ ih (fun hlt=>?_) (A2E k E9)
  ·split
   ·exact hl
   ·exact A1R _ _ _ _
  ·rw[if_neg]
   rintro rfl
   rw[Nat.pow_zero,Nat.div_one] at hlt
   omega
theorem climbK_same{mk t:List UInt8}{b:Nat}(ht:t.length=1024)(hb:b<16)(hp:Proper mk t):∀k,k<=5->climbK mk t b (nd t (16+b)) k=t
 | 0,_=>rfl
 | k+1,h=>by
  have ih:=climbK_same ht hb hp k E9
  rw[climbK,ih]
  cases k with
  | zero=>rw[if_pos rfl,Nat.pow_zero,Nat.div_one];exact setS_nd ht E9
  | succ k =>
   rw[if_neg E9,<-hp _ (A2E _ E9) (path_low hb k)]
   exact setS_nd ht (A1V hb _)
theorem climbL_same{mk t:List UInt8}{b:Nat}(ht:t.length=1024)(hb:b<16)(hp:Proper mk t):climbL mk t b (nd t (16+b))=t:=climbK_same ht hb hp 5 (A3t _)
theorem nd_zs{n i:Nat}(h:32*i+32<=n):nd (zs n) i=zs 32:=by
 unfold nd zs
 rw[A4o,List.take_replicate]
 congr 1;omega
theorem proper_zs(mk:List UInt8):Proper mk (zs 1024):=by
 intro i h1 hi
 rw[nd_zs E9,nd_zs E9,nd_zs E9]
 unfold nodeL
 rw[if_pos ⟨rfl,rfl⟩]
end
section
open Go.ChangeShapes Go.WideShapes Go.ChangeAt Go.RowKit
attribute [local irreducible] wpList wpListIn Oper.quietAt wpM
section
theorem r_eqAB{P:Program}{o:Oper}{a:Act}{w:World}{t t' n:Nat}{x y:Operand}{l m:List UInt8}{q:Bool}(hop:o.op=.binOp .eql t x y t')(hx:evO a x=some (.agg (bvs l)))(hy:evO a y=some (.agg (bvs m)))(hb:isBytes P t n=true)(hg:P.eqGuardType P.depth t=false)(hl:l.length=n)(hm:m.length=n)(hq:(l == m)=q):(execOp a.eval o).run P w=.ok (.value (.bool q)) w:=by
 unfold execOp;rw[hop];subst hq
 simp only[F4 hx,F4 hy,Sem.run_bind,run_eqGuard_agg w .eql t x y _ _ hg,Result.andThen_ok,run_eql_struct,V7 hb l m (by rw[F3,hl]) (by rw[F3,hm]) w]
 rfl
theorem two_bytes(x:UInt8)(i:Nat)(hi:i<256):(#[.int .u8 (x.toNat:Int),.int .u8 (i:Int)]:Array Value)=bvs [x,UInt8.ofNat i]:=by
 have e:(UInt8.ofNat i).toNat=i:=by simp;omega
 unfold bvs bv
 simp[e]
theorem A0L:Tryz.prog.built 130 []=some (bvs (zs 32)):=by kernel_rfl
attribute [local irreducible] tagL
theorem node_any(mk:List UInt8)(hk:mk.length<=1000000)(m:Nat)(hm:m<16)(l r:List UInt8)(hl:l.length=32)(hr:r.length=32)(kv:Value)(w0:World)(hkv:BytesAt w0 kv mk) :
  Calls Tryz.prog 142 #[kv,.int .i64 (m:Int),.agg (bvs l),.agg (bvs r)] w0 fun e w'=>e=.returned (.agg (bvs (nodeL mk m l r)))/\Below w0.heap.size w0 w':=by
 have hS:=St.start w0
 have sl:csz (bvs l)=32:=by rw[F3,hl]
 have sr:csz (bvs r)=32:=by rw[F3,hr]
 have sZ:csz (bvs (zs 32))=32:=by rw[F3,zs_len]
 have hp:(#[.int .u8 2,.int .u8 (m:Int)]:Array Value)=bvs [2,UInt8.ofNat m]:=two_bytes 2 m E9
 by_cases h0:l=zs 32/\r=zs 32
 ·have e1:nodeL mk m l r=zs 32:=if_pos h0
  rw[e1]
  obtain⟨rfl,rfl⟩:=h0
  clear hp
  go_enter Tryz.func142,Tryz.ntmps142
  repeat' (first|(refine Zll ?_;first|(refine Stp.go stp_list F1 F1 (L8 F1 F1 A0L) ?_;refine F2 ?_)|(refine Stp.go stp_list F1 F1 (r_eqAB (n:=32) F1 F1 F1 E7 E7 (zs_len 32) (zs_len 32) (beq_self_eq_true _)) ?_;refine F2 ?_))|refine Zasm ?_|(refine Zks ?_;clear hS;intro b w hS)|(refine Ztsm ?_;clear hS;intro w hS)|(refine Zg ?_;go_step)|fail)
  exact G2 (n:=32) Tryz.results142 E7 (.inl rfl) _ _ _ _ rfl rfl (hS.blk 1 rfl) (by rw[<-H5];exact sZ) ⟨rfl,hS.below⟩
 ·have hlf:nodeL mk m l r=tagL mk ([2,UInt8.ofNat m]++(l++r)):=if_neg h0
  have hll:=A1R mk m l r
  obtain⟨G,hG⟩:∃G,nodeL mk m l r=G:=⟨_,rfl⟩
  rw[hG] at hlf hll |-
  have sG:csz (bvs G)=32:=by rw[F3,hll]
  have hlne:l≠[]:=by intro e;rw[e] at hl;cases hl
  have hrne:r≠[]:=by intro e;rw[e] at hr;cases hr
  obtain⟨M2,hM2⟩:∃x,[2,UInt8.ofNat m]=x:=⟨_,rfl⟩
  have hM2l:M2.length=2:=by rw[<-hM2];rfl
  rw[hM2] at hp hlf
  obtain⟨q1,hq1⟩:∃q,(l == zs 32)=q:=⟨_,rfl⟩
  obtain⟨q2,hq2⟩:∃q,(r == zs 32)=q:=⟨_,rfl⟩
  have hqq:(q1 && q2)=false:=by
   cases q1<;>cases q2<;>first|rfl|exact absurd ⟨eq_of_beq hq1,eq_of_beq hq2⟩ h0
  clear h0
  go_enter Tryz.func142,Tryz.ntmps142
  cases q1<;>cases q2<;>cases hqq
  all_goals (repeat' (first|(refine Zll ?_;first|(refine Stp.go stp_list F1 F1 (L8 F1 F1 A0L) ?_;refine F2 ?_)|(refine Stp.go stp_list F1 F1 (r_eqAB (n:=32) F1 F1 F1 E7 E7 hl (zs_len 32) hq1) ?_;refine F2 ?_)|(refine Stp.go stp_list F1 F1 (r_eqAB (n:=32) F1 F1 F1 E7 E7 hr (zs_len 32) hq2) ?_;refine F2 ?_))|refine Zasm ?_|(refine Zks ?_;clear hS;intro b w hS)|(refine Ztsm ?_;clear hS;intro w hS)|(refine Zg ?_;go_step)|fail))
  all_goals (
   refine T0 [0,1,2,3,4,5,6,7,8] E7 E7 ?_
   intro w hcq
   replace hS:=hS.cls hcq
   clear hcq
   (refine Zpl 0 ?_);refine G9 ?_
   (refine Zpl 1 ?_);refine G9 ?_
   (refine Zpl 2 ?_);refine G9 ?_
   (refine Zpl 4 ?_);refine G9 ?_
   (refine Zpl 5 ?_);refine G9 ?_
   refine F9 3 E7 F1 ?_
   refine Zdsm ?_;clear hS;intro b w hS
   rw[hp] at hS
   refine F9 6 E7 F1 ?_
   refine Zdsm ?_;clear hS;intro b w hS
   have htg:=A1M mk hk kv [.slice (some ⟨_,0,none⟩) 2 2,.slice (some ⟨_,0,none⟩) 32 32,.slice (some ⟨_,0,none⟩) 32 32] [M2,l,r] F0 E6 _ 0 3 _ _ _ _ (hkv.below hS.below) (PartsAt.cons (I4 (hS.blk 1 rfl) hM2l) (by intro e;rw[e] at hM2l;cases hM2l) (PartsAt.cons (I4 (hS.blk 5 rfl) hl) hlne (PartsAt.cons (I4 (hS.blk 4 rfl) hr) hrne (PartsAt.nil _)))) (hS.blk 0 rfl) (fun j v h=>by rw[A3x,A3o];exact h) F0
   rw[show [M2,l,r].flatten=M2++(l++r) by simp,<-hlf] at htg
   refine F9 7 E7 F1 ?_
   repeat' (first|(refine Zll ?_;(refine g_calls hS (htg) ?_;clear hS;intro w hS))|(refine Zg ?_;go_step)|fail)
   refine F9 8 E7 F1 ?_
   refine Zdsm ?_;clear hS;intro w hS
   refine K6 E7 ?_
   refine Zdsm ?_;show _
   exact G2 (n:=32) Tryz.results142 E7 (.inl rfl) _ _ _ _ rfl rfl (hS.blk 3 rfl) (by rw[<-H5];exact sG) ⟨rfl,hS.below⟩)
end
section
theorem trHas_any(m:Nat)(hm:m<16)(w0:World):Calls Tryz.prog 139 #[.int .i64 (m:Int)] w0 fun e w'=>e=.returned (.bool true)/\Below w0.heap.size w0 w':=by
 have hS:=St.start w0
 go_enter Tryz.func139,Tryz.ntmps139
 refine Zdsm ?_;show _
 go_ret
 exact⟨rfl,hS.below⟩
theorem check_any(m:Nat)(hm:m<16)(b c:Nat)(w0:World):Calls Tryz.prog 93 #[.slice (some ⟨b,0,none⟩) 32 c,.int .i64 (m:Int)] w0 fun e w'=>e=.returned .nilIface/\Below w0.heap.size w0 w':=by
 have hS:=St.start w0
 have hh:=trHas_any m hm
 go_enter Tryz.func93,Tryz.ntmps93
 repeat' (first|refine Zasm ?_|(refine Zll ?_;(refine g_calls hS (hh _) ?_;clear hS;intro w hS))|(refine Zg ?_;go_step)|fail)
 go_ret
 exact⟨rfl,hS.below⟩
theorem path_any(m:Nat)(w0:World):Calls Tryz.prog 141 #[.int .i64 (m:Int)] w0 fun e w'=>∃bb,e=.returned (.func (.func 208) #[] #[.pointer (some ⟨bb,0,none⟩)])/\w0.heap.size<=bb/\blk w' bb=some (.cells #[.int .i64 (m:Int)] 3 (0,0))/\Below w0.heap.size w0 w':=by
 have hS:=St.start w0
 go_enter Tryz.func141,Tryz.ntmps141
 refine Zdsm ?_;clear hS;intro b w hS
 go_ret
 exact⟨_,rfl,hS.low 0 rfl,hS.blk 0 rfl,hS.below⟩
theorem path1_iter(m:Nat)(hm:m<16)(bb:Nat)(W0:World)(hbb:blk W0 bb=some (.cells #[.int .i64 (m:Int)] 3 (0,0))) :
  IterAt Tryz.prog 208 #[.pointer (some ⟨bb,0,none⟩)] (fun k=>#[.int .i64 (((16+m) / 2 ^ k:Nat):Int)]) (some 5) [bb] W0:=by
 intro lb J Jx M W L0 hbW hR hM hJ0 hH' hY
 have hmW:blk W bb=some (.cells #[.int .i64 (m:Int)] 3 (0,0)):=(hbW.block bb (G1 hbb)).trans hbb
 have hgn:bb∉L0.map (·.1):=hR bb (A3m ..)
 have hh:=trHas_any m hm
 clear hbb hbW hR
 refine(callsIn_wide (n:=1)).1 ?_
 refine callsIn_of_wp Tryz.func208 rfl trivial ?_ rfl
 simp only[Tryz.ntmps208,A3R,A3D,A3S,Nat.reduceAdd,Nat.reduceSub,A4h,A4i,A4t,A4l,A3q,A3F]
 have hS:=St.start W
 refine ZyVm ?_;intro _
 gi_loopg [3] 5 (fun r u3 wr=>∃k L,r+k=5/\u3=.int .i64 (((16+m) / 2 ^ k:Nat):Int)/\J k L/\Rd L0 W L wr)
 case atStart=>exact⟨0,L0,by omega,by rw[Nat.pow_zero,Nat.div_one];push_cast;rfl,hJ0,.call hH' hS.below⟩
 case round =>
  obtain⟨k,L,hk,rfl,hJ,hRd⟩:=hrel
  have hmr:blk wr bb=some (.cells #[.int .i64 (m:Int)] 3 (0,0)):=(hRd.farCells hmW hgn).1
  replace hS:=St.start wr
  by_cases hlt:k<5
  ·have hp1:=A2E (b:=m) k E9
   have hp2:=A1V hm k
   have hph:=path_half m k
   have hyk:=fun W=>hY k L W hJ
   dsimp only at hyk
   obtain⟨X,hX⟩:∃X,(16+m) / 2 ^ k=X:=⟨_,rfl⟩
   rw[hX] at hp1 hp2 hph hyk |-
   have hXX:((X:Int)) / 2=(((16+m) / 2 ^ (k+1):Nat):Int):=by rw[hph];omega
   repeat' (first|refine ZaVm ?_|(refine Zli ?_;((refine G3 F5 (by exact((hS).far hmr).1) ?_)<;>refine F2 ?_))|(refine Zli ?_;(refine g_callp F5 own_st hS (hh _) ?_;clear hS;intro w hS))|(refine Zi ?_;gi_step)|fail)
   have hRd1:Rd L0 W L _:=hRd.trans (.call hRd.holds hS.below)
   (refine A0N F1 F1 F1 F1 F1 C5 ?_)
   rintro e W3 ⟨L2,hRd2,(⟨rfl,hJ2⟩|⟨rfl,hx⟩)⟩
   ·refine⟨_,rfl,?_⟩
    refine F2 ?_
    have hRd3:=hRd1.trans hRd2
    replace hS:=St.start W3
    refine ZdVm ?_;intro _
    gi_roundg (gk - 1)
    case rel=>exact⟨k+1,L2,by omega,by rw[hXX],hJ2,hRd3.trans (.call hRd3.holds hS.below)⟩
    case measure=>omega
   ·refine⟨_,rfl,?_⟩
    refine F2 ?_
    have hRd3:=hRd1.trans hRd2
    replace hS:=St.start W3
    refine ZdVm ?_;intro _
    refine bodyPost_end (results_none rfl _ _ _) rfl ?_
    exact⟨⟨_,rfl⟩,L2,hRd3,.inr hx⟩
  ·obtain rfl:k=5:=by omega
   rw[path_five hm]
   repeat' (first|refine ZaVm ?_|(refine Zli ?_;((refine G3 F5 (by exact((hS).far hmr).1) ?_)<;>refine F2 ?_))|(refine Zli ?_;(refine g_callp F5 own_st hS (hh _) ?_;clear hS;intro w hS))|(refine Zi ?_;first|gi_step|refine Zq ?_)|fail)
   refine bodyPost_end (results_none rfl _ _ _) rfl ?_
   exact⟨⟨_,rfl⟩,L,hRd.trans (.call hRd.holds hS.below),.inl ⟨_,rfl,hJ⟩⟩
end
section
def TreeAt(w:World)(v:Value)(t:List UInt8):Prop:=t.length=1024/\∃(b c:Nat)(sp:List Value)(ty:TypeId)(fr:Nat × Nat),v=.slice (some ⟨b,0,none⟩) 32 c/\32<=c/\c<=maxLen/\blk w b=some (.cells (t.map bv++sp).toArray ty fr)
theorem TreeAt.below{w w':World}{v:Value}{t:List UInt8}(h:TreeAt w v t)(hb:Below w.heap.size w w'):TreeAt w' v t:=by
 obtain⟨h0,b,c,sp,ty,fr,h1,h2,h3,h4⟩:=h
 exact⟨h0,b,c,sp,ty,fr,h1,h2,h3,(hb.block b (G1 h4)).trans h4⟩
theorem csz_tr(t:List UInt8)(sp:List Value)(ht:t.length=1024):csz (t.map bv++sp).toArray=1024+sp.length:=by unfold csz;simp[ht]
theorem cut_tr{t:List UInt8}{sp:List Value}(ht:t.length=1024){i:Nat}(hi:i<32):cut (t.map bv++sp).toArray (i*32) 32=bvs (nd t i):=by
 unfold cut
 rw[if_neg (fun h=>by have:=csz_tr t sp ht;rw[h.2] at this;omega)]
 apply Array.ext'
 unfold nd bvs
 rw[A5L,A4T,A4H D2,A4q (by rw[A3H,A3u];omega),A4e,A5g,A5a,A5w]
theorem paste_tr{t x:List UInt8}{sp:List Value}(ht:t.length=1024){i:Nat}(hi:i<32)(hx:x.length=32):paste (t.map bv++sp).toArray (i*32) (bvs x)=((setS t i x).map bv++sp).toArray:=by
 unfold paste
 rw[if_neg (fun h=>by have:=csz_tr t sp ht;rw[h.2,F3,hx] at this;omega)]
 have e1:(t.map bv++sp).take (i*32)=(t.take (32*i)).map bv:=by rw[A4q D2,A5g,A5w]
 have e2:(t.map bv++sp).drop (i*32+(bvs x).size)=(t.drop (32*i+32)).map bv++sp:=by rw[A1l,hx,A4H D2,A5a,A5w]
 unfold splice setS
 rw[e1,e2]
 simp[bvs]
theorem cloneT_any(t:List UInt8)(v:Value)(w0:World)(hv:TreeAt w0 v t) :
  Calls Tryz.prog 140 #[v] w0 fun e w'=>∃g c sp,e=.returned (.slice (some ⟨g,0,none⟩) 32 c)/\32<=c/\c<=maxLen/\w0.heap.size<=g/\blk w' g=some (.cells (t.map bv++sp).toArray 130 (0,0))/\Below w0.heap.size w0 w':=by
 obtain⟨ht,b,c,sp,ty,fr,rfl,h1,h2,h3⟩:=id hv
 have hS:=St.start w0
 go_enter Tryz.func140,Tryz.ntmps140
 refine Zdsm ?_;clear hS;intro _ _ _ _ b w hS
 refine J9 stp_list own_st hS F1 F1 F1 F1 E5 E3 (olds:=[]) (spare:=[]) F1 F1 E9 F1 (xs:=t.map bv) (L9 (hS.far h3).1 (fun j v h=>by rw[A3x];show (t.map bv++sp)[j]?=_;rw[A3E (A3n.1 h).1];exact h)) (by rw[A3u,ht]) (R9 t) D9 (by rw[A3x]) ?_
 clear hS
 intro b2 c2 sp2 w q1 q2 q3 hS
 refine F2 ?_
 refine Zdsm ?_;show _
 go_ret
 exact⟨b2,c2,sp2,rfl,q1,q2,hS.low 0 rfl,hS.blk 0 rfl,hS.below⟩
theorem climbK_next(mk t:List UInt8)(m:Nat)(leaf:List UInt8)(k:Nat)(hk:k≠0):climbK mk t m leaf (k+1)=setS (climbK mk t m leaf k) ((16+m) / 2 ^ k) (nodeL mk ((16+m) / 2 ^ k) (nd (climbK mk t m leaf k) (2*((16+m) / 2 ^ k))) (nd (climbK mk t m leaf k) (2*((16+m) / 2 ^ k)+1))):=by
 rw[climbK,if_neg hk]
theorem climbK_first(mk t:List UInt8)(m:Nat)(leaf:List UInt8):climbK mk t m leaf 1=setS t (16+m) leaf:=by
 rw[climbK,if_pos rfl,Nat.pow_zero,Nat.div_one];rfl
attribute [local irreducible] nodeL climbK
theorem climb_any(mk:List UInt8)(hk:mk.length<=1000000)(t:List UInt8)(m:Nat)(hm:m<16)(leaf:List UInt8)(hl:leaf.length=32)(kv v:Value)(w0:World)(hkv:BytesAt w0 kv mk)(hv:TreeAt w0 v t) :
  Calls Tryz.prog 94 #[kv,v,.int .i64 (m:Int),.agg (bvs leaf)] w0 fun e w'=>∃g c sp,e=.returned (.slice (some ⟨g,0,none⟩) 32 c)/\32<=c/\c<=maxLen/\w0.heap.size<=g/\blk w' g=some (.cells ((climbL mk t m leaf).map bv++sp).toArray 130 (0,0))/\Below w0.heap.size w0 w':=by
 obtain⟨pk,ck,rfl,hkc,hk0,hkb⟩:=id hkv
 have hS:=St.start w0
 have ht:=hv.1
 have hcl:=fun w h=>cloneT_any t v w h
 have hpt:=fun w=>path_any m w
 have hit:=fun bb W0 h=>path1_iter m hm bb W0 h
 have hkl:=A0Y (mk:=mk) (leaf:=leaf) ht hm hl
 have sl:csz (bvs leaf)=32:=by rw[F3,hl]
 have hfirst:=climbK_first mk t m leaf
 have hnext:=climbK_next mk t m leaf
 refine N9 Tryz.func94 rfl ?_
 simp only[Tryz.ntmps94,A3R,A3D,A3S,Nat.reduceAdd,Nat.reduceSub,A4h,A4i,A4t,A4l,A3q,A3F]
 refine Zdsm ?_;clear hS;intro _ b w b w hS _ _
 refine F7 stp_list F1 F1 F1 F1 F1 E5 (hcl _ (hv.below hS.below)) ?_
 rintro e w2 ⟨g,c,sp,rfl,c1,c2,c3,c4,hB⟩
 refine⟨_,rfl,?_⟩
 refine F2 ?_
 replace hS:=own_st.new hS hB c3 c4
 clear hB c3 c4
 repeat' (first|refine Zasm ?_|(refine Zks ?_;clear hS;intro b w hS)|(refine Ztsm ?_;clear hS;intro w hS)|(refine Zg ?_;go_step)|fail)
 refine F7 stp_list F1 F1 F1 F1 F1 E5 (hpt _) ?_
 rintro e w3 ⟨bb,rfl,p1,p2,hB⟩
 refine⟨_,rfl,?_⟩
 refine F2 ?_
 rename_i bk z1 bl z2 z3 KA hKA KB hKB
 obtain⟨L0,hL0⟩:∃L:List Blk,[(b,(#[.slice (some ⟨g,0,none⟩) 32 c]:Array Value),139),(g,(t.map bv++sp).toArray,130),(bl,bvs leaf,130),(bk,#[.slice pk mk.length ck],23)]=L:=⟨_,rfl⟩
 rw[hL0] at hS
 have hlow:∀x∈L0.map (·.1),x<w.heap.size:=fun x hx=>own_st.lt hS hx
 replace hS:=own_st.call hS hB
 repeat' (first|(refine Zg ?_;go_step)|fail)
 refine V8 (els:=fun k=>#[.int .i64 (((16+m) / 2 ^ k:Nat):Int)]) (N:=some 5) (R:=[bb]) (gf:=208) (lb:=#[.pointer (some ⟨bb,0,none⟩)]) F1 D6 (hit bb _ p2) (Below.refl _ _) (fun _=>rfl)
  (fun k L=>k<=5/\L=(b,#[.slice (some ⟨g,0,none⟩) 32 c],139)::(g,((climbK mk t m leaf k).map bv++sp).toArray,130)::(bl,bvs leaf,130)::(bk,#[.slice pk mk.length ck],23)::[])
  (fun _ _=>False) 0 (fun h=>by cases h) L0 ?I0 ?H0 ?R0 ?act1 ?assign ?body ?done ?stop
 case I0=>exact⟨by omega,by rw[show climbK mk t m leaf 0=t by unfold climbK;rfl];exact hL0.symm⟩
 case H0=>exact hS.holds
 case R0 =>
  intro x hx
  simp only[A3G,A3W,or_false] at hx
  subst hx
  exact⟨G1 p2,fun h=>absurd (hlow _ h) E9⟩
 case assign =>
  intro l0 k L W hI hIn K hK
  have hSL:=hS
  have hS:=hIn.round
  simp only[A5B,A5k,A5l,A5h,A5r,A5I,A3v,A3w,A3z]
  refine Zdi ?_;show _
  exact hK _ hS
 case body =>
  rintro l0 k L W ⟨hk5,rfl⟩ hIn hN
  have hlt:=hN _ rfl
  have hSL:=hS.range hIn
  replace hS:=hIn.round
  have hlk:=hkl k
  have hp1:=A2E (b:=m) k E9
  have hp2:=A1V hm k
  have hfk:=hnext k
  by_cases hk0:k=0
  ·subst hk0
   clear hfk
   rw[Nat.pow_zero,Nat.div_one] at hp1 hp2 |-
   have hA0:climbK mk t m leaf 0=t:=by unfold climbK;rfl
   rw[hA0] at hS |-
   have s5:=csz_tr t sp ht
   have hps:paste (t.map bv++sp).toArray ((16+m)*32) (bvs leaf)=((climbK mk t m leaf (0+1)).map bv++sp).toArray:=by
    rw[paste_tr ht E9 hl,hfirst]
   repeat' (first|refine Zai ?_|(refine Zti ?_;clear hS;intro w hS)|(refine Zi ?_;gi_step)|fail)
   rw[hps] at hS
   exact⟨_,hS,by omega,rfl⟩
  ·have hlow16:(16+m) / 2 ^ k<16:=by
    have:=path_low hm (k - 1)
    rwa [show k - 1+1=k by omega] at this
   have hfk:=hfk hk0
   have hnd:=fun w h1=>node_any mk hk ((16+m) / 2 ^ k) hlow16 (nd (climbK mk t m leaf k) (2*((16+m) / 2 ^ k))) (nd (climbK mk t m leaf k) (2*((16+m) / 2 ^ k)+1)) (R3 hlk E9) (R3 hlk E9) (.slice pk mk.length ck) w h1
   have hl1:=R3 hlk (i:=2*((16+m) / 2 ^ k)) E9
   have hl2:=R3 hlk (i:=2*((16+m) / 2 ^ k)+1) E9
   have hl3:=A1R mk ((16+m) / 2 ^ k) (nd (climbK mk t m leaf k) (2*((16+m) / 2 ^ k))) (nd (climbK mk t m leaf k) (2*((16+m) / 2 ^ k)+1))
   have hc1:=cut_tr (sp:=sp) hlk (i:=2*((16+m) / 2 ^ k)) E9
   have hc2:=cut_tr (sp:=sp) hlk (i:=2*((16+m) / 2 ^ k)+1) E9
   have hps:=paste_tr (sp:=sp) hlk hp2 hl3
   rw[<-hfk] at hps
   have s5:=csz_tr _ sp hlk
   obtain⟨X,hX⟩:∃X,(16+m) / 2 ^ k=X:=⟨_,rfl⟩
   rw[hX] at hp1 hp2 hlow16 hnd hl1 hl2 hl3 hc1 hc2 hps |-
   obtain⟨A2,hA2⟩:∃A,climbK mk t m leaf (k+1)=A:=⟨_,rfl⟩
   rw[hA2] at hps |-
   obtain⟨A,hA⟩:∃A,climbK mk t m leaf k=A:=⟨_,rfl⟩
   rw[hA] at hS hSL hlk hnd hl1 hl2 hl3 hc1 hc2 hps s5 |-
   obtain⟨N1,hN1⟩:∃x,nd A (2*X)=x:=⟨_,rfl⟩
   obtain⟨N2,hN2⟩:∃x,nd A (2*X+1)=x:=⟨_,rfl⟩
   rw[hN1] at hnd hl1 hl3 hc1 hps
   rw[hN2] at hnd hl2 hl3 hc2 hps
   obtain⟨G,hG⟩:∃x,nodeL mk X N1 N2=x:=⟨_,rfl⟩
   rw[hG] at hnd hl3 hps
   clear hfk hX hA hA2 hN1 hN2 hG hfirst hnext hkl
   have e1:(2*(X:Int)).toNat=2*X:=by omega
   have e2:(2*(X:Int)+1).toNat=2*X+1:=by omega
   rw[<-e1] at hc1
   rw[<-e2] at hc2
   have s1:csz (bvs N1)=32:=by rw[F3,hl1]
   have s2:csz (bvs N2)=32:=by rw[F3,hl2]
   have s3:csz (bvs G)=32:=by rw[F3,hl3]
   refine Zdi ?_;intro _
   refine K9 17 E7 E7 E7 ?_
   dsimp only[List.take,List.drop]
   iterate 17 (first|(refine Zw ?_;apply Exists.intro;refine⟨fun pB w' hw' hF=>?_,?_⟩;(focus (have hZ:=(own_in).call hS hw';exact(G8 (hnd _ (In.bytes hSL hZ hkv)))));refine Zo ?_)|refine ZQ ?_|refine ZUi ?_|refine ZXi ?_)
   refine Zn own_in hS ?_
   clear hS
   intro pB w hS
   try dsimp only
   refine Zdi ?_;clear hS;intro w hS
   rw[hps] at hS
   exact⟨_,hS,by omega,rfl⟩
 case stop=>rintro D c' L W h;exact h.elim
 case done =>
  rintro D N1 L W hm' ⟨hk5,rfl⟩ hIn hD hD0
  obtain rfl:=Option.some.inj hm'
  have hDw:w0.heap.size<=D:=A3T hS.below.size hD0
  replace hS:StD w0 D W _:=⟨hS.range hIn,hD⟩
  clear hIn hit
  repeat' (first|refine ZaDm ?_|(refine Zg ?_;go_step)|fail)
  refine postMR (.inl rfl) rfl hS.2 ?_
  have hS3:=hS.shut hDw
  go_ret
  exact⟨g,c,sp,rfl,c1,c2,hS3.low 1 rfl,hS3.blk 1 rfl,hS3.below⟩
end
section
attribute [local irreducible] climbL
theorem verify_any(mk:List UInt8)(hk:mk.length<=1000000)(t root:List UInt8)(hr:root.length=32)(m:Nat)(hm:m<16)(leaf:List UInt8)(hl:leaf.length=32)(kv v:Value)(w0:World)(hkv:BytesAt w0 kv mk)(hv:TreeAt w0 v t) :
  Calls Tryz.prog 57 #[kv,v,.agg (bvs root),.int .i64 (m:Int),.agg (bvs leaf)] w0 fun e w'=>e=.returned (.bool (decide (nd (climbL mk t m leaf) 1=root)))/\Below w0.heap.size w0 w':=by
 have hS:=St.start w0
 have hcl:=fun w h1 h2=>climb_any mk hk t m hm leaf hl kv v w h1 h2
 have sl:csz (bvs leaf)=32:=by rw[F3,hl]
 have sr:csz (bvs root)=32:=by rw[F3,hr]
 obtain⟨ht,b0,c0,sp0,ty,fr,rfl,h1,h2,h3⟩:=id hv
 have hch:=fun w=>check_any m hm b0 c0 w
 have hcl2:=climbL_len (mk:=mk) ht hm hl
 obtain⟨T,hT⟩:∃T,climbL mk t m leaf=T:=⟨_,rfl⟩
 rw[hT] at hcl hcl2 |-
 have hndl:(nd T 1).length=32:=R3 hcl2 E9
 have hndne:nd T 1≠[]:=by intro e;rw[e] at hndl;cases hndl
 have heq:=fun w v1 v2 k1 k2=>equal_any (nd T 1) root E9 hndne E9 v1 v2 w k1 k2
 obtain⟨q,hq⟩:∃q,decide (nd T 1=root)=q:=⟨_,rfl⟩
 rw[hq] at heq |-
 go_enter Tryz.func57,Tryz.ntmps57
 repeat' (first|refine Zasm ?_|(refine Zks ?_;clear hS;intro b w hS)|(refine Zll ?_;(refine g_calls hS (hch _) ?_;clear hS;intro w hS))|(refine Zg ?_;go_step)|fail)
 refine F7 stp_list F1 F1 F1 F1 F1 E5 (hcl _ (hkv.below hS.below) (hv.below hS.below)) ?_
 rintro e w2 ⟨g,c,sp,rfl,c1,c2,c3,c4,hB⟩
 refine⟨_,rfl,?_⟩
 refine F2 ?_
 replace hS:=own_st.new hS hB c3 c4
 have hbT:∀w,blk w g=some (.cells (T.map bv++sp).toArray 130 (0,0))->BytesAt w (.slice (some ⟨g,32,none⟩) 32 32) (nd T 1):=fun w h=>L5 h hndl (A3t _) fun j x hj=>by
  unfold nd at hj
  rw[A4f] at hj
  split at hj
  ·rw[A4z] at hj
   rw[A3o,A3E D2,A3N,show 32+j=32*1+j by omega,hj];rfl
  ·cases hj
 refine Zdsm ?_;intro _ _
 refine F6 5 E7 E7 ?_
 dsimp only[List.take,List.drop]
 iterate 5 (first|(refine Zw ?_;apply Exists.intro;refine⟨fun pB w' hw' hF=>?_,?_⟩;(focus (have hZ:=(own_st).call hS hw';exact(G8 (heq _ _ _ (hbT _ (hZ.blk 0 rfl)) (I4 (hZ.blk 2 rfl) hr)))));refine Zo ?_)|refine ZQm ?_)
 refine Zn own_st hS ?_
 clear hS
 intro pB w hS
 try dsimp only
 refine Zdsm ?_;show _
 go_ret
 exact⟨rfl,hS.below⟩
end
section
theorem ovw_step{t x:List UInt8}{k n:Nat}(ht:t.length=1024)(hx:x=nd t k)(hk:k<32)(hn:32<=n){off:Nat}(ho:off=32*k):ovw (bvs (t.take (32*k)++zs (1024 - 32*k))) off (x.take n)=bvs (t.take (32*(k+1))++zs (1024 - 32*(k+1))):=by
 subst ho hx
 have hl:=R3 ht hk
 have lk:(t.take (32*k)).length=32*k:=by rw[A3s];omega
 rw[A3B (l:=nd t k) E9,O8,hl,A4x lk]
 have e1:t.take (32*(k+1))=t.take (32*k)++nd t k:=by unfold nd;rw[show 32*(k+1)=32*k+32 by omega,A5C]
 have e2:(t.take (32*k)++zs (1024 - 32*k)).drop (32*k+32)=zs (1024 - 32*(k+1)):=by
  rw[A4U,A3M E9,A3q,lk]
  unfold zs
  rw[A4o]
  congr 1;omega
 rw[e1,e2,A3K]
theorem end_zs{t:List UInt8}(ht:t.length=1024):t.take (32*32)++zs (1024 - 32*32)=t:=by
 rw[A3B E9]
 show t++zs 0=t
 unfold zs
 simp
theorem sectors_any(t:List UInt8)(v:Value)(w0:World)(hv:TreeAt w0 v t) :
  Calls Tryz.prog 248 #[v] w0 fun e w'=>∃g,e=.returned (.tuple #[.slice (some ⟨g,0,none⟩) 8 8,.nilIface])/\w0.heap.size<=g/\blk w' g=some (.cells (bvs t) 36 (0,0))/\Below w0.heap.size w0 w':=by
 have hS:=St.start w0
 obtain⟨ht,b0,c0,sp0,ty,fr,rfl,h1,h2,hb⟩:=id hv
 have hmz:madeCells (bvs (zs 128)) (8*128)=bvs (zs 1024):=made_cels 1024
 have s0:=csz_tr t sp0 ht
 go_enter Tryz.func248,Tryz.ntmps248
 repeat' (first|(refine Zll ?_;(refine O2 (n:=8) stp_list own_st hS F1 F1 F1 F1 E5 E5 hmz E9 E9 ?_;clear hS;intro g w hS;refine F2 ?_))|refine Zasm ?_|(refine Zg ?_;go_step)|fail)
 go_loopw [14] (fun u14 wr=>∃k:Nat,k<=32/\u14=.int .i64 (k:Int)/\St w0 wr [(g,bvs (t.take (32*k)++zs (1024 - 32*k)),36)]) (fun u14 _=>32 - (intOf u14).toNat)
 case atStart=>exact⟨0,by omega,rfl,by rw[Nat.mul_zero,A4g,A3q];exact hS⟩
 case round =>
  clear hS
  obtain⟨k,hk,rfl,hS⟩:=hrel
  by_cases hlt:k<32
  ·have hl:=R3 ht hlt
   have hc1:=cut_tr (sp:=sp0) ht hlt
   have lk:(t.take (32*k)).length=32*k:=by rw[A3s];omega
   have sO:csz (bvs (t.take (32*k)++zs (1024 - 32*k)))=1024:=by rw[F3,A3k,lk,zs_len];omega
   have hnx:=fun (off n:Nat) (h1:32<=n) (h2:off=32*k)=>ovw_step (t:=t) (x:=nd t k) (n:=n) (off:=off) ht rfl hlt h1 h2
   obtain⟨X,hX⟩:∃X,nd t k=X:=⟨_,rfl⟩
   rw[hX] at hl hc1 hnx
   have sX:csz (bvs X)=32:=by rw[F3,hl]
   have sZ:csz (bvs (zs 32))=32:=by rw[F3,zs_len]
   repeat' (first|refine Zbsm ?_|(refine Zll ?_;((refine K3 stp_list (by exact((hS).far hb).1) ?_ (hv:=by(exact hc1)))<;>refine F2 ?_))|(refine Zks ?_;clear hS;intro b w hS)|(refine Ztsm ?_;clear hS;intro w hS)|(refine Zg ?_;go_step)|fail)
   refine F6 9 E7 E7 ?_
   dsimp only[List.take,List.drop]
   iterate 9 (refine ZQm ?_)
   refine Zn own_st hS ?_
   clear hS
   intro pB w hS
   try dsimp only
   refine Q9 (i:=1) stp_list own_st hS F1 F1 F1 F1 E5 F1 (I4 (hS.blk 0 rfl) hl) (by rw[A3s,sO,hl];omega) (hnx _ _ E9 E9) A9 (show (((X.take _).length:Nat):Int)=32 by rw[A3s,hl];omega) ?_
   clear hS
   intro w hS
   refine F2 ?_
   refine Zdsm ?_;show _
   go_roundw
   case rel=>exact⟨k+1,by omega,by push_cast;rfl,hS.erase 0⟩
   case measure=>(simp[intOf];omega)
  ·obtain rfl:k=32:=by omega
   rw[end_zs ht] at hS
   refine Zdsm ?_;intro _ _ _
   go_ret2
   exact⟨g,rfl,hS.low 0 rfl,hS.blk 0 rfl,hS.below⟩
theorem tags_any(t:List UInt8)(v:Value)(w0:World)(hv:CellsAt w0 v t 8) :
  Calls Tryz.prog 200 #[v] w0 fun e w'=>∃g,e=.returned (.tuple #[.slice (some ⟨g,0,none⟩) 32 32,.nilIface])/\w0.heap.size<=g/\blk w' g=some (.cells (bvs t) 130 (0,0))/\Below w0.heap.size w0 w':=by
 have hS:=St.start w0
 obtain⟨ht0,p,c0,rfl,hc,hp0,hcell⟩:=hv
 obtain⟨b0,o0,cs,ty,fr,rfl,hb,hcc⟩:=hcell E9
 have ht:t.length=1024:=by omega
 have hmz:madeCells (bvs (zs 32)) (32*32)=bvs (zs 1024):=made_zs E9 1024
 go_enter Tryz.func200,Tryz.ntmps200
 repeat' (first|(refine Zll ?_;(refine O2 (n:=32) stp_list own_st hS F1 F1 F1 F1 E5 E5 hmz E9 E9 ?_;clear hS;intro g w hS;refine F2 ?_))|refine Zasm ?_|(refine Zg ?_;go_step)|fail)
 go_loopw [13] (fun u13 wr=>∃k:Nat,k<=32/\u13=.int .i64 (k:Int)/\St w0 wr [(g,bvs (t.take (32*k)++zs (1024 - 32*k)),130)]) (fun u13 _=>32 - (intOf u13).toNat)
 case atStart=>exact⟨0,by omega,rfl,by rw[Nat.mul_zero,A4g,A3q];exact hS⟩
 case round =>
  clear hS
  obtain⟨k,hk,rfl,hS⟩:=hrel
  by_cases hlt:k<32
  ·have hl:=R3 ht hlt
   have lk:(t.take (32*k)).length=32*k:=by rw[A3s];omega
   have sO:csz (bvs (t.take (32*k)++zs (1024 - 32*k)))=1024:=by rw[F3,A3k,lk,zs_len];omega
   have hsl:∀w (off n c:Nat),blk w b0=some (.cells cs ty fr)->off=o0+32*k->n=128 - 32*(k % 4)->n<=c->BytesAt w (.slice (some ⟨b0,off,none⟩) n c) (sl t (32*k) n):=fun w off n c h h1 h2 h3=>by
    subst h1
    refine L5 h (sl_len E9) h3 fun j x hj=>?_
    rw[A0w] at hj
    split at hj
    ·rw[A4K];exact hcc _ _ hj
    ·cases hj
   have hnd:∀n,32<=n->(sl t (32*k) n).take 32=nd t k:=fun n hn=>by unfold sl nd;rw[List.take_take,A5j hn]
   have hnx:∀off n:Nat,off=32*k->32<=n->ovw (bvs (t.take (32*k)++zs (1024 - 32*k))) off ((sl t (32*k) n).take 32)=bvs (t.take (32*(k+1))++zs (1024 - 32*(k+1))):=fun off n h1 h2=>by
    have:=ovw_step (t:=t) (x:=nd t k) (n:=32) (off:=off) ht rfl hlt (A3t _) h1
    rw[hnd n h2]
    rwa [A3B (l:=nd t k) E9] at this
   refine Zdsm ?_;intro _ _ _
   refine F6 12 E7 E7 ?_
   dsimp only[List.take,List.drop]
   iterate 12 (refine ZQm ?_)
   refine Zn own_st hS ?_
   clear hS
   intro pB w hS
   try dsimp only
   refine Q9 (i:=0) stp_list own_st hS F1 F1 F1 F1 E5 F1 (hsl _ _ _ _ (hS.far hb).1 E9 E9 E9) (by rw[hnd _ E9,sO,hl];omega) (hnx _ _ E9 E9) A9 (show ((((sl t (32*k) _).take 32).length:Nat):Int)=32 by rw[hnd _ E9,hl];rfl) ?_
   clear hS
   intro w hS
   refine F2 ?_
   refine Zdsm ?_;show _
   go_roundw
   case rel=>exact⟨k+1,by omega,by push_cast;rfl,hS⟩
   case measure=>(simp[intOf];omega)
  ·obtain rfl:k=32:=by omega
   rw[end_zs ht] at hS
   refine Zdsm ?_;intro _ _ _
   go_ret2
   exact⟨g,rfl,hS.low 0 rfl,hS.blk 0 rfl,hS.below⟩
end
end
end Go.Proofs.YtlfbfbbdpcihfaaGreat
