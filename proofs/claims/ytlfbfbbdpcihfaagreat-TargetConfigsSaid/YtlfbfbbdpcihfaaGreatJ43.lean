/- Laws that the claim uses. No condition of their own. -/
import Derived.Test.YtlfbfbbdpcihfaaGreatJ39
set_option maxRecDepth 100000
set_option maxHeartbeats 8000000
set_option linter.all false
namespace Go.Proofs.YtlfbfbbdpcihfaaGreat
section
open Go.ChangeShapes Go.WideShapes Go.ChangeAt Go.RowKit
attribute [local irreducible] wpList wpListIn Oper.quietAt wpM
attribute [local irreducible] shaL
instance(priority:=2000) instVe8_1:ZeroT Tryz.prog 137 (bvs (zs 64)):=⟨by kernel_rfl⟩
theorem M9{P:Program}{fn:Func}{p u ty n:Nat}(hres:fn.results=#[.cell p ty,.tmp u])(hr:isRow P ty n=true){R:Ending->World->Prop}{a:Act}{w:World}{e:Exit}(he:e=.ret\/e=.normal)
  (g:Nat)(cs:Array Value)(t:TypeId)(fr:Nat × Nat)(hp:a.tmps.getD p undef=.pointer (some ⟨g,0,none⟩))(hd:a.defers=[])(hg:blk w g=some (.cells cs t fr))(hs:cs.size=n)(hR:R (.returned (.tuple #[.agg cs,a.tmps.getD u undef])) w) :
  bodyPost P fn R e a w:=by
 have h1:(results fn a.tmps).run P w=.ok (.tuple #[.agg cs,a.tmps.getD u undef]) w:=by
  have hp':a.tmps[p]?.getD undef=.pointer (some ⟨g,0,none⟩):=by simpa using hp
  simp[results,hres,hp',asAddr,run_res_row hr w g cs t fr hg hs]
 rcases he with rfl|rfl
 ·exact bodyPost_ret h1 hd hR
 ·exact bodyPost_end h1 hd hR
def okR(X:List UInt8):Value:=.tuple #[.agg (bvs X),.nilIface]
def badR(n:Int):Value:=.tuple #[.agg (bvs (zs 128)),.iface 48 (.int .i64 n)]
section
variable{w0:World}{vv:Value}(hg:∀w,Below w0.heap.size w0 w->Calls Tryz.prog 54 #[vv] w fun e w'=>e=.returned (.bool true)/\Below w.heap.size w w')
include hg
theorem vread_gone(n m:Int):Calls Tryz.prog 32 #[vv,.int .i64 n,.int .i64 m] w0 fun e w'=>e=.returned (badR 5)/\Below w0.heap.size w0 w':=by
 have hS:=St.start w0
 have sZ:csz (bvs (zs 128))=128:=by rw[F3,zs_len]
 go_enter Tryz.func32,Tryz.ntmps32
 repeat' (first|refine Zasm ?_|(refine Zks ?_;clear hS;intro b w hS)|(refine Ztsm ?_;clear hS;intro w hS)|(refine Zll ?_;(refine g_calls hS (hg _ hS.below) ?_;clear hS;intro w hS))|(refine Zg ?_;go_step)|fail)
 exact M9 (n:=128) Tryz.results32 E7 (.inl rfl) _ _ _ _ rfl rfl (hS.blk 0 rfl) D4 (⟨rfl,hS.below⟩)
end
section
variable{w0:World}{vv:Value}(hg:∀w,Below w0.heap.size w0 w->Calls Tryz.prog 54 #[vv] w fun e w'=>e=.returned (.bool false)/\Below w.heap.size w w')
include hg
theorem vread_range(n m:Int)(h:¬((0<=n/\n<2)/\(0<=m/\m<16))):Calls Tryz.prog 32 #[vv,.int .i64 n,.int .i64 m] w0 fun e w'=>e=.returned (badR 1)/\Below w0.heap.size w0 w':=by
 have hS:=St.start w0
 have sZ:csz (bvs (zs 128))=128:=by rw[F3,zs_len]
 have hut:=fun w=>unit_any n _ rfl w
 by_cases hn:0<=n/\n<2
 ·rw[decide_eq_true hn] at hut
  by_cases hm:m<0
  ·go_enter Tryz.func32,Tryz.ntmps32
   repeat' (first|refine Zasm ?_|(refine Zks ?_;clear hS;intro b w hS)|(refine Ztsm ?_;clear hS;intro w hS)|(refine Zll ?_;first|(refine g_calls hS (hg _ hS.below) ?_;clear hS;intro w hS)|(refine g_calls hS (hut _) ?_;clear hS;intro w hS))|(refine Zg ?_;go_step)|fail)
   exact M9 (n:=128) Tryz.results32 E7 (.inl rfl) _ _ _ _ rfl rfl (hS.blk 0 rfl) D4 (⟨rfl,hS.below⟩)
  ·have hm2:(16:Int)<=m:=by omega
   go_enter Tryz.func32,Tryz.ntmps32
   repeat' (first|refine Zasm ?_|(refine Zks ?_;clear hS;intro b w hS)|(refine Ztsm ?_;clear hS;intro w hS)|(refine Zll ?_;first|(refine g_calls hS (hg _ hS.below) ?_;clear hS;intro w hS)|(refine g_calls hS (hut _) ?_;clear hS;intro w hS))|(refine Zg ?_;go_step)|fail)
   exact M9 (n:=128) Tryz.results32 E7 (.inl rfl) _ _ _ _ rfl rfl (hS.blk 0 rfl) D4 (⟨rfl,hS.below⟩)
 ·rw[decide_eq_false hn] at hut
  go_enter Tryz.func32,Tryz.ntmps32
  repeat' (first|refine Zasm ?_|(refine Zks ?_;clear hS;intro b w hS)|(refine Ztsm ?_;clear hS;intro w hS)|(refine Zll ?_;first|(refine g_calls hS (hg _ hS.below) ?_;clear hS;intro w hS)|(refine g_calls hS (hut _) ?_;clear hS;intro w hS))|(refine Zg ?_;go_step)|fail)
  exact M9 (n:=128) Tryz.results32 E7 (.inl rfl) _ _ _ _ rfl rfl (hS.blk 0 rfl) D4 (⟨rfl,hS.below⟩)
end
section
variable{rd:Rdr}{w00 w0:World}{g:G4}{N:Nat}{su:List UInt8}{co:List Int}{L:List Blk}
theorem vnote_ok{V P:Nat}{cn bs:Int}{hv lv kv:Value}{ct:Int}{M:List UInt8}{t0 t1:Value}{ty:TypeId}(hM:M.length=728)(hVb:blk w0 V=some (.cells (vC P cn bs hv lv kv ct M t0 t1 false) ty (0,0))){k:Nat}(hk:k<2) :
  Calls Tryz.prog 136 #[.pointer (some ⟨V,0,none⟩),.int .i64 (k:Int)] w0 fun e w'=>e=.returned (okR (sl M (344+128*k) 128))/\Below w0.heap.size w0 w':=by
 have hS:=St.start w0
 have sZ:csz (bvs (zs 128))=128:=by rw[F3,zs_len]
 have hut:=fun w=>unit_any (k:Int) _ rfl w
 rw[decide_eq_true ⟨by omega,by omega⟩] at hut
 have sV:=Q4 (P:=P) (cn:=cn) (bs:=bs) (h:=hv) (l:=lv) (k:=kv) (ct:=ct) (t0:=t0) (t1:=t1) (dn:=false) hM
 have vd:=vC_737 (P:=P) (cn:=cn) (bs:=bs) (h:=hv) (l:=lv) (k:=kv) (ct:=ct) (t0:=t0) (t1:=t1) (dn:=false) hM
 have cN:cut (vC P cn bs hv lv kv ct M t0 t1 false) (351+k*128) 128=bvs (sl M (344+128*k) 128):=mid_cut F0 E6 E9
 have hg:=fun w h=>gone_any vd w h (V:=V) (ty:=ty)
 have lN:=sl_len (M:=M) (o:=344+128*k) (n:=128) E9
 obtain⟨X,hX⟩:∃x,sl M (344+128*k) 128=x:=⟨_,rfl⟩
 rw[hX] at cN lN |-
 have sX:csz (bvs X)=128:=by rw[F3,lN]
 go_enter Tryz.func136,Tryz.ntmps136
 repeat' (first|refine Zbsm ?_|refine Zvs ?_|(refine Zks ?_;clear hS;intro b w hS)|(refine Ztsm ?_;clear hS;intro w hS)|(refine Zll ?_;first|(refine g_calls hS (hg _ (hS.far hVb).1) ?_;clear hS;intro w hS)|(refine g_calls hS (hut _) ?_;clear hS;intro w hS))|(refine Zg ?_;go_step)|fail)
 exact M9 (n:=128) Tryz.results136 E7 (.inl rfl) _ _ _ _ rfl rfl (hS.blk 0 rfl) D4 (⟨rfl,hS.below⟩)
end
end
end Go.Proofs.YtlfbfbbdpcihfaaGreat
