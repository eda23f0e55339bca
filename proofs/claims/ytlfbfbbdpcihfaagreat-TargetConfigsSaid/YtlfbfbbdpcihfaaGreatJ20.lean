/- Laws that the claim uses. No condition of their own. -/
import Derived.Test.YtlfbfbbdpcihfaaGreatJ19
set_option maxRecDepth 100000
set_option maxHeartbeats 8000000
set_option linter.all false
namespace Go.Proofs.YtlfbfbbdpcihfaaGreat
section
open Go.ChangeShapes Go.WideShapes Go.ChangeAt Go.RowKit
def RoundsOf(w:World)(ks:List (List UInt8))(e:Ending)(w':World):Prop:=∃v,e=.returned (.tuple #[v,.nilIface])/\RowsAt w' 16 v ks/\Below w.heap.size w w'
theorem word_cut{cs:Array Value}{o:Nat}{key:List UInt8}(h:∀i x,key[i]?=some x->cs[o+i]?=some (bv x))(k:Nat)(hk:4*k+4<=key.length):o+4*k+4<=csz cs/\cut cs (o+4*k) 4=bvs ((key.drop (4*k)).take 4):=by
 refine cut_of_cells E6 E9 fun i x hi=>?_
 have hil:i<4:=by have:=(A3n.1 hi).1;simp at this;omega
 rw[A4f,if_pos hil,A4z] at hi
 rw[A4K]
 exact h _ _ hi
theorem A0G(ws:List (List UInt8))(w:List UInt8):flat (ws++[w])=flat ws++w.map bv:=by simp[flat]
theorem turnW_A{t:List UInt8}{n k:Nat}(h:k % n=0):turnW t n k=xorL ([t.getD 1 0,t.getD 2 0,t.getD 3 0,t.getD 0 0].map subB) [conB (k / n:Nat),0,0,0]:=by unfold turnW;rw[if_pos h]
theorem turnW_B{t:List UInt8}{n k:Nat}(h:¬k % n=0)(h2:6<n/\k % n=4):turnW t n k=t.map subB:=by unfold turnW;rw[if_neg h,if_pos h2]
theorem turnW_C{t:List UInt8}{n k:Nat}(h:¬k % n=0)(h2:¬(6<n/\k % n=4)):turnW t n k=t:=by unfold turnW;rw[if_neg h,if_neg h2]
theorem xor_first(a b c d x:UInt8):xorL [a,b,c,d] [x,0,0,0]=[a ^^^ x,b,c,d]:=by simp[xorL]
theorem kws_at{key:List UInt8}{n m:Nat}{j:Nat}(hj:j<m):(kws key n m)[j]?=some ((kws key n m).getD j []):=by
 have:j<(kws key n m).length:=by rw[X5];exact hj
 simp[A3I,A3p this]
theorem A2v(a b:List UInt8):xorN a b 0=a:=by unfold xorN;rfl
attribute [irreducible] RoundsOf
theorem roundsBad_any(key:List UInt8)(h1:key.length≠16)(h2:key.length≠32)(v:Value)(w:World)(hv:BytesAt w v key)(_hm:key.length<=maxLen):Calls Tryz.prog 146 #[v] w fun e w'=>e=.returned (.tuple #[.slice none 0 0,.iface 48 (.int .i64 3)])/\w=w':=by
 obtain⟨p,c,rfl,_⟩:=hv
 unfold maxLen at _hm
 generalize key.length=n at *
 have g1:((n:Int) == 16)=false:=by simp;omega
 have g2:((n:Int) == 32)=false:=by simp;omega
 have g3:((n:Int) != 16)=true:=by simp;omega
 have g4:((n:Int) != 32)=true:=by simp;omega
 clear h1 h2
 go_enter Tryz.func146,Tryz.ntmps146
 go_wp2
 go_ret2
 exact⟨rfl,rfl⟩
end
end Go.Proofs.YtlfbfbbdpcihfaaGreat
