/- Laws that the claim uses. No condition of their own. -/
import Derived.Test.YtlfbfbbdpcihfaaGreatJ03
set_option maxRecDepth 100000
set_option maxHeartbeats 8000000
set_option linter.all false
namespace Go.Proofs.YtlfbfbbdpcihfaaGreat
section
open Go.RowKit
structure Gr(w0 wr:World)(e size:Nat)(v:Value)(n:Nat)(xs:List Value)(L:List (Nat × Array Value × TypeId)):Prop where
 own:wr.ownsRow w0.heap.size e size v n xs
 st:St w0 wr L
 apart:∀g,v.ownBlock=some g->g∉L.map (·.1)
theorem ownsRow_below{w w':World}{base e size n:Nat}{v:Value}{xs:List Value}(h:w.ownsRow base e size v n xs)(hb:Below w.heap.size w w'):w'.ownsRow base e size v n xs:=by
 refine⟨h.1,?_⟩
 rcases h.2 with h2|⟨g,cap,cur,h1,h2,h3,h4⟩
 ·exact .inl h2
 ·exact .inr ⟨g,cap,cur,h1,h2,(hb.block g (A3y.1 h3).1).trans h3,h4⟩
theorem Gr.lt{w0 wr:World}{e size n g:Nat}{v:Value}{xs:List Value}{L:List (Nat × Array Value × TypeId)}(h:Gr w0 wr e size v n xs L)(hg:v.ownBlock=some g):g<wr.heap.size:=by
 rcases h.own.2 with⟨rfl,_⟩|⟨g',cap,cur,rfl,_,h3,_⟩
 ·simp[Value.ownBlock] at hg
 ·simp only[Value.ownBlock,Option.some.injEq] at hg
  subst hg
  exact(A3y.1 h3).1
theorem Gr.alloc{w0 wr:World}{e size n:Nat}{v:Value}{xs:List Value}{L:List (Nat × Array Value × TypeId)}(h:Gr w0 wr e size v n xs L)(cs:Array Value)(t:TypeId):Gr w0 (wr.alloc (.cells cs t)) e size v n xs ((wr.heap.size,cs,t)::L):=by
 refine⟨ownsRow_below h.own ((Below.refl _ _).alloc (A3t _) _),h.st.alloc cs t,fun g hg hm=>?_⟩
 simp only[A3X,A3G] at hm
 rcases hm with h1|h1
 ·have:=h.lt hg;omega
 ·exact h.apart g hg h1
theorem Gr.setRow{w0 wr:World}{e size n:Nat}{v:Value}{xs:List Value}{L:List (Nat × Array Value × TypeId)}(h:Gr w0 wr e size v n xs L)(i:Nat){b:Nat}{cs:Array Value}{t:TypeId}(hi:L[i]?=some (b,cs,t))(cs':Array Value) :
  Gr w0 (wr.setRow b cs') e size v n xs (L.set i (b,cs',t)):=by
 have hil:i<L.length:=(A3n.1 hi).1
 have hk:(L.set i (b,cs',t)).map (·.1)=L.map (·.1):=by
  rw[List.map_set]
  have:b=(L.map (·.1))[i]'(by simpa using hil):=by
   have:=(A3n.1 hi).2
   simp[this]
  simp only[this,List.set_getElem_self]
 have hbL:b∈L.map (·.1):=A3C.2 ⟨_,A4d hi,rfl⟩
 refine⟨⟨h.own.1,?_⟩,h.st.setRow i hi cs',fun g hg=>by rw[hk];exact h.apart g hg⟩
 rcases h.own.2 with h2|⟨g,cap,cur,rfl,h2,h3,h4⟩
 ·exact .inl h2
 ·have hne:g≠b:=fun e=>h.apart g rfl (e ▸ hbL)
  exact .inr ⟨g,cap,cur,rfl,h2,(setRow_other wr b g cs' hne).trans h3,h4⟩
theorem Gr.open{w0 wr:World}{e size n:Nat}{v:Value}{xs:List Value}{L:List (Nat × Array Value × TypeId)}(h:Gr w0 wr e size v n xs L)(hn:v≠.slice none 0 0) :
  ∃g cap cur,v=.slice (some ⟨g,0,none⟩) n cap/\n<=cap/\cap<=maxLen/\cur.size=cap*size/\cur.toList.take (n*size)=xs/\St w0 wr ((g,cur,e)::L):=by
 rcases h.own.2 with⟨rfl,_⟩|⟨g,cap,cur,rfl,h2,h3,h4,h5,h6,h7⟩
 ·exact absurd rfl hn
 ·refine⟨g,cap,cur,rfl,h4,h5,h6,h7,h.st.1,fun x hx=>?_,?_⟩
  ·rcases A3G.1 hx with rfl|hx
   ·exact⟨h2,h3⟩
   ·exact h.st.2.1 x hx
  ·simp only[A3X,A4a]
   exact⟨h.apart g rfl,h.st.2.2⟩
def SrcAt(w:World)(v:Value)(size m:Nat)(news:List Value):Prop :=
 news.length=m*size/\(∀u∈news,u.oneCell'=true)/\((v=.slice none 0 0/\m=0)\/∃ad c,v=.slice (some ad) m c/\∀j u,news[j]?=some u->w.cell? (ad.add j)=some u)
theorem SrcAt.own{w0 wr:World}{L:List (Nat × Array Value × TypeId)}(h:St w0 wr L)(i:Nat){b:Nat}{cs:Array Value}{t:TypeId}(hi:L[i]?=some (b,cs,t)){size m c:Nat}{news:List Value}(hl:news.length=m*size)(h1:∀u∈news,u.oneCell'=true)
  (hc:∀(j:Nat)(u:Value),news[j]?=some u->cs[j]?=some u):SrcAt wr (.slice (some ⟨b,0,none⟩) m c) size m news :=
 ⟨hl,h1,.inr ⟨_,c,rfl,fun j u hj=>by rw[A0l,A3x,(h.at i hi).2.1 j];exact hc j u hj⟩⟩
def flat(ks:List (List UInt8)):List Value:=ks.flatMap (·.map bv)
theorem A2R{n:Nat}:∀{ks:List (List UInt8)},(∀k∈ks,k.length=n)->(flat ks).length=ks.length*n
 | [],_=>by simp[flat]
 | k::ks,h=>by
  have h1:=A2R (ks:=ks) (fun k hk=>h k (A3l _ hk))
  have h2:=h k (A3m ..)
  simp only[flat,A4A,A3k,A3u,A3D] at h1 |-
  rw[h1,h2,Nat.add_mul];omega
theorem flat_get{n:Nat}:∀{ks:List (List UInt8)},(∀k∈ks,k.length=n)->∀{i j:Nat}{k:List UInt8}{x:UInt8},ks[i]?=some k->k[j]?=some x->(flat ks)[i*n+j]?=some (bv x)
 | [],_,i,j,k,x,h1,_=>by simp at h1
 | k0::ks,h,i,j,k,x,h1,h2=>by
  have hk0:=h k0 (A3m ..)
  cases i with
  | zero =>
   simp only[A4Z,Option.some.injEq] at h1
   subst h1
   have hj:j<k0.length:=(A3n.1 h2).1
   simp only[flat,A4A,A4E,A3x]
   rw[A3E E4]
   simp[h2]
  | succ i =>
   have ih:=flat_get (ks:=ks) (fun k hk=>h k (A3l _ hk)) (by simpa using h1) h2
   simp only[flat,A4A] at ih |-
   rw[A3P (by rw[A3u,hk0,Nat.add_mul];omega),A3u,hk0,show (i+1)*n+j - n=i*n+j by rw[Nat.add_mul];omega]
   exact ih
theorem row_of_flat{n:Nat}(hn:0<n){ks:List (List UInt8)}(hk:∀k∈ks,k.length=n){cur:Array Value}{m:Nat}(h:cur.toList.take m=flat ks){i:Nat}{k:List UInt8}(hi:ks[i]?=some k) :
  i*n+n<=csz cur/\cut cur (i*n) n=bvs k:=by
 have hkl:=hk k (A4d hi)
 refine cut_of_cells hkl hn fun j x hj=>?_
 have:=flat_get hk hi hj
 rw[<-h,A4f] at this
 split at this
 ·simpa using this
 ·cases this
end
section
open Go.ChangeShapes Go.WideShapes Go.ChangeAt Go.RowKit
section
@[go_sem] theorem run_assert_errno(x:Value)(s:TypeId)(w:World):(Instr.typeAssert (.iface 48 x) s 48 true).run Tryz.prog w=.ok (.tuple #[x,.bool true]) w:=by
 unfold Instr.typeAssert
 simp[Sem.run_bind,run_underlying Tryz.underlying48]
theorem num_err(n:Int)(hn:(n == 0)=false)(w:World):Calls Tryz.prog 40 #[.iface 48 (.int .i64 n)] w fun e w'=>e=.returned (.int .i64 n)/\w=w':=by
 go_enter Tryz.func40,Tryz.ntmps40
 go_wp2
 go_ret
 exact⟨rfl,rfl⟩
theorem is_err(n k:Int)(hn:(n == 0)=false)(w:World):Calls Tryz.prog 12 #[.iface 48 (.int .i64 n),.int .i64 k] w fun e w'=>e=.returned (.bool (n == k))/\w=w':=by
 have H:=hid hn
 clear hn
 go_enter Tryz.func12,Tryz.ntmps12
 go_wp2_with fail
 with_reducible refine(num_err n H.out _).mono ?_
 rintro e w1 ⟨rfl,rfl⟩
 go_wp2
 go_ret
 exact⟨rfl,rfl⟩
theorem wp_make{P:Program}{ops:Array Oper}{rest:List Oper}{o:Oper}{a:Act}{Q:Exit->Act->World->Prop}{w0 w:World}{t e size bytes:Nat}(hE:elemB P t e size bytes=true)(hgd:o.guard=none){l c:Operand}
  (ho:o.op=.makeSlice t l c){L:List (Nat × Array Value × TypeId)}(hS:St w0 w L){kl kc:IntKind}{C:Int}(n:Nat)(hl:a.eval l=.int kl 0)(hc:a.eval c=.int kc C)(hC:C=(n:Int))(hb:bytes*n<=281474976710656)(hn:n<=maxLen)
  (h:∀w',Gr w0 w' e size (.slice (some ⟨w.heap.size,0,none⟩) 0 n) 0 [] L->wpList P ops Q rest (a.put o.dst (.slice (some ⟨w.heap.size,0,none⟩) 0 n)) w'):wpList P ops Q (o::rest) a w:=by
 obtain⟨ht,i,z,hi,hz,hsz,hby,_⟩:=elemB_iff hE
 refine wpList_make_own w hgd l c t ho w0.heap.size e i z size ht hi hz hsz kl kc C n hl hc hC (by rw[hby];exact hb) hn hS.1.size fun w' h1 h2=>h w' ⟨h1,?_,?_⟩
 ·refine⟨hS.1.trans ⟨h2.os,h2.tape,h2.output,h2.size,fun k hk=>h2.block k (by have:=hS.1.size;omega) (fun h=>by cases h)⟩,fun y hy=>⟨(hS.2.1 y hy).1,(h2.block _ (G1 (hS.2.1 y hy).2) (fun h=>by cases h)).trans (hS.2.1 y hy).2⟩,hS.2.2⟩
 ·intro g hg hm
  simp only[Value.ownBlock,Option.some.injEq] at hg
  obtain⟨y,hy,he⟩:=A3C.1 hm
  have:=G1 (hS.2.1 y hy).2
  omega
end
section
theorem len16{l:List UInt8}(h:l.length=16):∃a0 a1 a2 a3 a4 a5 a6 a7 a8 a9 a10 a11 a12 a13 a14 a15:UInt8,l=[a0,a1,a2,a3,a4,a5,a6,a7,a8,a9,a10,a11,a12,a13,a14,a15]:=by
 match l,h with
 | [a0,a1,a2,a3,a4,a5,a6,a7,a8,a9,a10,a11,a12,a13,a14,a15],_=>exact⟨a0,a1,a2,a3,a4,a5,a6,a7,a8,a9,a10,a11,a12,a13,a14,a15,rfl⟩
theorem len4{l:List UInt8}(h:l.length=4):∃a0 a1 a2 a3:UInt8,l=[a0,a1,a2,a3]:=by
 match l,h with
 | [a0,a1,a2,a3],_=>exact⟨a0,a1,a2,a3,rfl⟩
theorem zs16_is:zs 16=[0,0,0,0,0,0,0,0,0,0,0,0,0,0,0,0]:=by unfold zs;rfl
theorem zs4_is:zs 4=[0,0,0,0]:=by unfold zs;rfl
def shPart(l:List UInt8):Nat->List UInt8
 | 0=>zs 16
 | k+1=>(shPart l k).set k (l.getD ((k+4*(k % 4)) % 16) 0)
theorem A2r(l:List UInt8)(k:Nat):(shPart l k).length=16:=by
 induction k with
 | zero=>exact zs_len 16
 | succ k ih=>simp[shPart,ih]
theorem shPart_succ(l:List UInt8)(k:Nat):shPart l (k+1)=(shPart l k).set k (l.getD ((k+4*(k % 4)) % 16) 0):=rfl
theorem shPart_zero(l:List UInt8):shPart l 0=zs 16:=rfl
def unPart(l:List UInt8):Nat->List UInt8
 | 0=>zs 16
 | k+1=>(unPart l k).set ((k+4*(k % 4)) % 16) (l.getD k 0)
theorem W9(l:List UInt8)(k:Nat):(unPart l k).length=16:=by
 induction k with
 | zero=>exact zs_len 16
 | succ k ih=>simp[unPart,ih]
theorem unPart_succ(l:List UInt8)(k:Nat):unPart l (k+1)=(unPart l k).set ((k+4*(k % 4)) % 16) (l.getD k 0):=rfl
theorem unPart_zero(l:List UInt8):unPart l 0=zs 16:=rfl
theorem shift_is{l:List UInt8}{a0 a1 a2 a3 a4 a5 a6 a7 a8 a9 a10 a11 a12 a13 a14 a15:UInt8}(h:l=[a0,a1,a2,a3,a4,a5,a6,a7,a8,a9,a10,a11,a12,a13,a14,a15]) :
  shPart l 16=[a0,a5,a10,a15,a4,a9,a14,a3,a8,a13,a2,a7,a12,a1,a6,a11]:=by
 subst h;simp only[shPart,zs16_is];rfl
theorem unshift_is{l:List UInt8}{a0 a1 a2 a3 a4 a5 a6 a7 a8 a9 a10 a11 a12 a13 a14 a15:UInt8}(h:l=[a0,a1,a2,a3,a4,a5,a6,a7,a8,a9,a10,a11,a12,a13,a14,a15]) :
  unPart l 16=[a0,a13,a10,a7,a4,a1,a14,a11,a8,a5,a2,a15,a12,a9,a6,a3]:=by
 subst h;simp only[unPart,zs16_is];rfl
theorem unshift_shift{l:List UInt8}(h:l.length=16):unPart (shPart l 16) 16=l:=by
 obtain⟨a0,a1,a2,a3,a4,a5,a6,a7,a8,a9,a10,a11,a12,a13,a14,a15,rfl⟩:=len16 h
 rw[shift_is rfl,unshift_is rfl]
attribute [irreducible] shPart unPart
end
section
def Beg(cur:Array Value)(m:Nat)(xs:List Value):Prop:=cur.size=m/\cur.toList.take xs.length=xs
theorem Beg.write{cur:Array Value}{m:Nat}{xs:List Value}(h:Beg cur m xs)(news:List Value)(hm:xs.length+news.length<=m):Beg ((cur.toList.take xs.length++(news++cur.toList.drop (xs.length+news.length))).toArray) m (xs++news):=by
 obtain⟨h1,h2⟩:=h
 refine⟨by simp;omega,?_⟩
 rw[h2]
 show (xs++(news++_)).take (xs++news).length=xs++news
 rw[<-A3K]
 exact List.take_left
theorem Beg.nil(cur:Array Value)(m:Nat)(h:cur.size=m):Beg cur m []:=⟨h,by simp⟩
theorem Beg.row{cur:Array Value}{m n:Nat}{ks:List (List UInt8)}(h:Beg cur m (flat ks))(hn:0<n)(hk:∀k∈ks,k.length=n){i:Nat}{k:List UInt8}(hi:ks[i]?=some k):i*n+n<=csz cur/\cut cur (i*n) n=bvs k :=
 row_of_flat hn hk h.2 hi
theorem Z5{c:List UInt8}:∀v∈c.map bv,v.oneCell'=true:=fun v hv=>by
 obtain⟨b,_,rfl⟩:=A3C.1 hv
 rfl
theorem V9{P:Program}{ops:Array Oper}{rest:List Oper}{o:Oper}{a:Act}{Q:Exit->Act->World->Prop}{w0 w:World}{t e size bytes:Nat}(hE:elemB P t e size bytes=true)(hgd:o.guard=none){s x:Operand}
  (ho:o.op=.call { callee:=.builtin .append,args:=#[s,x],argTypes:=#[t,t] }){L:List (Nat × Array Value × TypeId)}(hS:St w0 w L)(i:Nat){g n cap:Nat}{cur:Array Value}(hi:L[i]?=some (g,cur,e))(hs:a.eval s=.slice (some ⟨g,0,none⟩) n cap)
  {ad:Addr}{m c:Nat}{xs news:List Value}(hB:Beg cur (cap*size) xs)(hxl:xs.length=n*size)(hx:a.eval x=.slice (some ad) m c)(hsrc:SrcAt w (.slice (some ad) m c) size m news)(hroom:n+m<=cap)
  (h:∀cur',Beg cur' (cap*size) (xs++news)->St w0 (w.setRow g cur') (L.set i (g,cur',e))->wpList P ops Q rest (a.put o.dst (.slice (some ⟨g,0,none⟩) (n+m) cap)) (w.setRow g cur')):wpList P ops Q (o::rest) a w:=by
 obtain⟨ht,ie,z,hie,hz,hsz,hby,hzs,hpos⟩:=elemB_iff hE
 obtain⟨hl,h1,hv⟩:=hsrc
 rcases hv with⟨h2,_⟩|⟨ad2,c2,h2,hnews⟩
 ·cases h2
 ·simp only[Value.slice.injEq,Option.some.injEq] at h2
  obtain⟨rfl,_,rfl⟩:=h2
  have hfit:xs.length+news.length<=cap*size:=by rw[hxl,hl,<-Nat.add_mul];exact Nat.mul_le_mul_right _ hroom
  refine wpList_plain hgd fun K hK=>?_
  have hrun:=run_append_room (P:=P) w t o.type e ie ht hie g n cap cur (hS.blk i hi) ad m c news (by rw[hsz];exact hl) hnews h1 hroom (by rw[hsz,<-hxl,hB.1];exact hfit)
  rw[hsz,<-hxl,A3K] at hrun
  have hB2:=hB.write news hfit
  have hS2:=hS.setRow i hi ((cur.toList.take xs.length++(news++cur.toList.drop (xs.length+news.length))).toArray)
  unfold Oper.wp
  simp[execOp,ho,resolve,invoke,builtin,hs,hx,hrun,Result.andThen]
  exact hK _ _ (h _ hB2 hS2)
theorem wp_make_full{P:Program}{ops:Array Oper}{rest:List Oper}{o:Oper}{a:Act}{Q:Exit->Act->World->Prop}{w0 w:World}{t e size bytes:Nat}(hE:elemB P t e size bytes=true)(hgd:o.guard=none){l c:Operand}
  (ho:o.op=.makeSlice t l c){L:List (Nat × Array Value × TypeId)}(hS:St w0 w L){kl kc:IntKind}{N C:Int}(n:Nat)(hl:a.eval l=.int kl N)(hc:a.eval c=.int kc C)(hN:N=(n:Int))(hC:C=(n:Int))(hb:bytes*n<=281474976710656)(hn:n<=maxLen)
  (h:∀w' cur,cur.size=n*size->(∀z,(P.info? e).bind (·.zero)=some z->cur.toList=(madeCells z.cells (n*size)).toList)->St w0 w' ((w.heap.size,cur,e)::L)->wpList P ops Q rest (a.put o.dst (.slice (some ⟨w.heap.size,0,none⟩) n n)) w'):wpList P ops Q (o::rest) a w:=by
 obtain⟨ht,i,z,hi,hz,hsz,hby,_⟩:=elemB_iff hE
 refine wpList_make_full w hgd l c t ho w0.heap.size e i z size ht hi hz hsz kl kc N C n hl hc hN hC (by rw[hby];exact hb) hn hS.1.size fun w' h1 h2=>?_
 rcases h1.2 with⟨h3,_⟩|⟨g,cap,cur,h3,h4,h5,h6,h7,h8,h9⟩
 ·cases h3
 ·simp only[Value.slice.injEq,Option.some.injEq,Addr.mk.injEq,true_and] at h3
  obtain⟨⟨rfl,_⟩,rfl⟩:=h3
  rw[A3B E6] at h9
  refine h w' cur h8 (fun z' hz'=>?_) ⟨hS.1.trans ⟨h2.os,h2.tape,h2.output,h2.size,fun k hk=>h2.block k (by have:=hS.1.size;omega) (fun h=>by cases h)⟩,fun y hy=>?_,?_⟩
  ·rw[hi] at hz'
   simp only[Option.bind_some,hz,Option.some.injEq] at hz'
   subst hz'
   exact h9
  ·rcases A3G.1 hy with rfl|hy
   ·exact⟨h4,h5⟩
   ·exact⟨(hS.2.1 y hy).1,(h2.block _ (G1 (hS.2.1 y hy).2) (fun h=>by cases h)).trans (hS.2.1 y hy).2⟩
  ·simp only[A3X,A4a]
   refine⟨fun hm=>?_,hS.2.2⟩
   obtain⟨y,hy,he⟩:=A3C.1 hm
   have:=G1 (hS.2.1 y hy).2
   omega
theorem Gr.cells0{w0 wr:World}{e size cap g:Nat}{L:List (Nat × Array Value × TypeId)}(h:Gr w0 wr e size (.slice (some ⟨g,0,none⟩) 0 cap) 0 [] L):∃cur,cur.size=cap*size/\St w0 wr ((g,cur,e)::L):=by
 obtain⟨g2,cap2,cur,hv,_,_,hs,_,hS⟩:=h.open (fun h=>by cases h)
 simp only[Value.slice.injEq,Option.some.injEq,Addr.mk.injEq,true_and] at hv
 obtain⟨⟨rfl,_⟩,rfl⟩:=hv
 exact⟨cur,hs,hS⟩
def buildSliceW(t:TypeId)(n:Nat)(parts:Array (Nat × Value)):Sem Value:=if n=n then Instr.buildSlice t n parts else Instr.buildSlice t n parts
@[go_sem ↓] theorem buildSlice_words(n:Nat)(parts:Array (Nat × Value)):Instr.buildSlice 356 n parts=buildSliceW 356 n parts:=by unfold buildSliceW;rw[if_pos rfl]
@[go_sem] theorem run_words1(l:List UInt8)(h:csz (bvs l)=4)(w:World):(buildSliceW 356 1 #[(0,.agg (bvs l))]).run Tryz.prog w=.ok (.slice (some ⟨w.heap.size,0,none⟩) 1 1) (w.alloc (.cells (bvs l) 357)):=by
 have h0:(Tryz.prog.info? 357).map (fun i=>(i.zero,i.size))=some (some (.agg (bvs (zs 4))),4):=by rw[<-zs4];kernel_rfl
 cases hi:Tryz.prog.info? 357 with
 | none=>rw[hi] at h0;cases h0
 | some i =>
  rw[hi] at h0
  simp only[A4I,Option.some.injEq,Prod.mk.injEq] at h0
  unfold buildSliceW
  rw[if_pos rfl]
  refine run_buildSlice w 356 357 1 _ _ i _ Tryz.underlying356 hi h0.1 (by rw[h0.2];decide) (by rw[h0.2];decide) ?_
  rw[h0.2]
  rw[F3] at h
  obtain⟨a,b,c,d,rfl⟩:=len4 h
  rw[<-zs4]
  kernel_rfl
end
section
def ovw(cur:Array Value)(o:Nat)(l:List UInt8):Array Value:=(cur.toList.take o++(l.map bv++cur.toList.drop (o+l.length))).toArray
theorem ovw_size{cur:Array Value}{o:Nat}{l:List UInt8}(h:o+l.length<=cur.size):(ovw cur o l).size=cur.size:=by
 unfold ovw;simp;omega
theorem ovw_nil(cur:Array Value)(o:Nat):ovw cur o []=cur:=by
 unfold ovw;simp
theorem ovw_snoc{cur:Array Value}{o:Nat}{l:List UInt8}(h:o+l.length<cur.size)(b:UInt8):(ovw cur o l).setIfInBounds (o+l.length) (bv b)=ovw cur o (l++[b]):=by
 have h1:(cur.toList.take o).length=o:=by simp;omega
 have h2:o+l.length<cur.toList.length:=by simpa using h
 unfold ovw
 rw[A3v,A4Q _ _ E9,h1,A4e,A4Q _ _ F0,A3u,A5K,A5q h2,A3w]
 simp[A4K]
theorem O8(x l:List UInt8)(o:Nat):ovw (bvs x) o l=bvs (x.take o++(l++x.drop (o+l.length))):=by
 unfold ovw bvs
 simp[A5g,A5a]
def leB(n:Nat):Nat->List UInt8
 | 0=>[]
 | k+1=>leB n k++[UInt8.ofNat (n / 256 ^ k)]
theorem leB_zero(n:Nat):leB n 0=[]:=rfl
theorem A1g(n k:Nat):leB n (k+1)=leB n k++[UInt8.ofNat (n / 256 ^ k)]:=rfl
theorem leB_len(n k:Nat):(leB n k).length=k:=by
 induction k with
 | zero=>rfl
 | succ k ih=>simp[A1g,ih]
theorem leB_cons(n k:Nat):leB n (k+1)=UInt8.ofNat n::leB (n / 256) k:=by
 induction k with
 | zero=>simp[leB]
 | succ k ih =>
  rw[A1g,ih,A1g (n / 256) k,A3F,A5G,Nat.pow_succ,A5w]
def leN:List UInt8->Nat
 | []=>0
 | b::l=>b.toNat+256*leN l
theorem leN_lt:∀l:List UInt8,leN l<256 ^ l.length
 | []=>by simp[leN]
 | b::l=>by
  have h:=leN_lt l
  have hb:=b.toNat_lt
  simp only[leN,A3D,Nat.pow_succ]
  omega
theorem leN_leB(n k:Nat):leN (leB n k)=n % 256 ^ k:=by
 induction k generalizing n with
 | zero=>simp[leB,leN,Nat.mod_one]
 | succ k ih =>
  rw[leB_cons,leN,ih]
  rw[Nat.pow_succ,A5w (256 ^ k) 256,Nat.mod_mul]
  simp
theorem leB_leN:∀l:List UInt8,leB (leN l) l.length=l
 | []=>rfl
 | b::l=>by
  have hb:=b.toNat_lt
  rw[A3D,leB_cons,leN]
  rw[show (b.toNat+256*leN l) / 256=leN l by omega,leB_leN l]
  congr 1
  apply UInt8.toNat_inj.1
  rw[UInt8.toNat_ofNat']
  omega
theorem ovw_cons{cur:Array Value}{o:Nat}{l:List UInt8}(h:o+1+l.length<=cur.size)(b:UInt8):(ovw cur (o+1) l).setIfInBounds o (bv b)=ovw cur o (b::l):=by
 have ho:o<cur.toList.length:=by simp;omega
 have h1:(cur.toList.take o).length=o:=by simp;omega
 unfold ovw
 rw[A4u ho,A3K,A3v,A4Q _ _ E9,h1,A5K,A3D,show o+(l.length+1)=o+1+l.length by omega]
 rfl
def beB(n k:Nat):List UInt8:=(leB n k).reverse
def beN(l:List UInt8):Nat:=leN l.reverse
theorem beB_zero(n:Nat):beB n 0=[]:=rfl
theorem A1k(n k:Nat):beB n (k+1)=UInt8.ofNat (n / 256 ^ k)::beB n k:=by
 unfold beB;rw[A1g,List.reverse_append];rfl
theorem H6(n k:Nat):(beB n k).length=k:=by unfold beB;rw[List.length_reverse,leB_len]
theorem A2H(l:List UInt8)(b:UInt8):beN (l++[b])=b.toNat+256*beN l:=by
 unfold beN;rw[List.reverse_append];rfl
theorem beN_nil:beN []=0:=rfl
theorem beN_lt(l:List UInt8):beN l<256 ^ l.length:=by
 have:=leN_lt l.reverse
 rwa [List.length_reverse] at this
theorem beB_beN(l:List UInt8):beB (beN l) l.length=l:=by
 unfold beB beN
 have:=leB_leN l.reverse
 rw[List.length_reverse] at this
 rw[this,List.reverse_reverse]
theorem beN_beB(n k:Nat):beN (beB n k)=n % 256 ^ k:=by
 unfold beB beN
 rw[List.reverse_reverse,leN_leB]
attribute [irreducible] ovw leB leN beB beN
end
section
theorem putLittle_any(g off n c:Nat)(cur:Array Value)(t:TypeId)(x:Nat)(w:World)(hb:blk w g=some (.cells cur t (0,0)))(hfit:off+n<=csz cur)(hn:n<=1000000000)(_hc:c<=maxLen) :
  Calls Tryz.prog 209 #[.slice (some ⟨g,off,none⟩) n c,.int .u64 x] w fun e w'=>e=.returned (.tuple #[])/\w'=w.setRow g (ovw cur off (leB x n)):=by
 rw[<-T4 hb]
 have H0:Hid (w=putRow w g cur t):=hid (A3f hb)
 have hlt:=G1 hb
 clear hb
 rw[H5] at hfit
 go_enter Tryz.func209,Tryz.ntmps209
 go_wp2_with fail
 go_loopw [1,4,7] (fun u1 u4 i wr=>∃k:Nat,k<=n/\i=.int .i64 k/\u1=.int .u64 ((x / 256 ^ k:Nat):Int)/\wr=putRow w g (ovw cur off (leB x k)) t)
  (fun _ _ i _=>n - (intOf i).toNat)
 case atStart=>exact⟨0,by omega,rfl,by simp,by rw[leB_zero,ovw_nil];exact H0.out⟩
 case round =>
  obtain⟨k,hk,rfl,rfl,rfl⟩:=hrel
  by_cases hkn:k<n
  ·have hl:(leB x k).length=k:=leB_len x k
   obtain⟨v0,hv0⟩:∃v0,(ovw cur off (leB x k))[off+k]?=some v0:=⟨_,A5J (by rw[ovw_size E9];omega)⟩
   have hs:=ovw_snoc (cur:=cur) (o:=off) (l:=leB x k) E9 (UInt8.ofNat (x / 256 ^ k))
   rw[hl,<-A1g] at hs
   have hd:x / 256 ^ (k+1)=x / 256 ^ k / 256:=by rw[Nat.pow_succ,A5G]
   have hbv:bv (UInt8.ofNat (x / 256 ^ k))=.int .u8 (((x / 256 ^ k:Nat):Int) % 256):=by simp[bv]
   rw[hbv] at hs
   have HS:=hid hs;have HD:=hid hd
   clear hl hs hd hbv
   generalize x / 256 ^ k=y at *
   go_wp2
   go_roundw
   case rel=>exact⟨k+1,by omega,by go_num,by rw[HD.out];rfl,by rw[<-HS.out]⟩
   case measure=>simp[intOf];omega
  ·obtain rfl:k=n:=by omega
   go_wp2
   go_end0
   exact⟨rfl,rfl⟩
theorem S0(g off n c:Nat)(cur:Array Value)(t:TypeId)(x:Nat)(w:World)(hb:blk w g=some (.cells cur t (0,0)))(hfit:off+n<=csz cur)(hn:n<=1000000000)(_hc:c<=maxLen) :
  Calls Tryz.prog 181 #[.slice (some ⟨g,off,none⟩) n c,.int .u64 x] w fun e w'=>e=.returned (.tuple #[])/\w'=w.setRow g (ovw cur off (beB x n)):=by
 rw[<-T4 hb]
 have H0:Hid (w=putRow w g cur t):=hid (A3f hb)
 have hlt:=G1 hb
 clear hb
 rw[H5] at hfit
 go_enter Tryz.func181,Tryz.ntmps181
 go_wp2_with fail
 go_loopw [1,4] (fun u1 i wr=>∃k:Nat,k<=n/\i=.int .i64 ((n:Int) - 1 - k)/\u1=.int .u64 ((x / 256 ^ k:Nat):Int)/\wr=putRow w g (ovw cur (off+n - k) (beB x k)) t)
  (fun _ i _=>(intOf i+1).toNat)
 case atStart=>exact⟨0,by omega,by simp,by simp,by rw[beB_zero,ovw_nil];exact H0.out⟩
 case round =>
  obtain⟨k,hk,rfl,rfl,rfl⟩:=hrel
  by_cases hkn:k<n
  ·have hl:(beB x k).length=k:=H6 x k
   obtain⟨m,hm⟩:∃m,n=k+1+m:=⟨n - (k+1),by omega⟩
   have e1:off+n - k=off+m+1:=by omega
   have e2:(n:Int) - 1 - k=(m:Int):=by omega
   have e3:off+n - (k+1)=off+m:=by omega
   obtain⟨v0,hv0⟩:∃v0,(ovw cur (off+m+1) (beB x k))[off+m]?=some v0:=⟨_,A5J (by rw[ovw_size E9];omega)⟩
   have hs:=ovw_cons (cur:=cur) (o:=off+m) (l:=beB x k) E9 (UInt8.ofNat (x / 256 ^ k))
   rw[<-A1k] at hs
   have hd:x / 256 ^ (k+1)=x / 256 ^ k / 256:=by rw[Nat.pow_succ,A5G]
   have hbv:bv (UInt8.ofNat (x / 256 ^ k))=.int .u8 (((x / 256 ^ k:Nat):Int) % 256):=by simp[bv]
   rw[hbv] at hs
   rw[e1,e2]
   have hmn:(m:Int)<(n:Int):=by omega
   have HS:=hid hs;have HD:=hid hd;have HM:=hid hm;have H3:=hid e3
   clear hl hs hd hbv hm e1 e2 e3 H0
   generalize x / 256 ^ k=y at *
   go_wp2
   go_roundw
   case rel=>exact⟨k+1,by omega,by rw[HM.out];congr 1;omega,by rw[HD.out];rfl,by rw[H3.out,<-HS.out]⟩
   case measure=>simp[intOf]
  ·obtain rfl:k=n:=by omega
   rw[show (k:Int) - 1 - k = -1 by omega,show off+k - k=off by omega]
   go_wp2
   go_end0
   exact⟨rfl,rfl⟩
theorem or_byte(y c:Nat)(hc:c<256):y*256 ||| c=y*256+c:=by
 have:=Nat.two_pow_add_eq_or_of_lt (i:=8) (b:=c) E9 y
 rw[A5w] at this
 exact this.symm
theorem BytesAt.cell{w:World}{p:Option Addr}{n c:Nat}{l:List UInt8}(h:BytesAt w (.slice p n c) l){i:Nat}{x:UInt8}(hi:l[i]?=some x):∃b o,p=some ⟨b,o,none⟩/\w.cell? ⟨b,o+i,none⟩=some (.int .u8 (x.toNat:Int))/\b<w.heap.size:=by
 obtain⟨p',c',hv,h1,_,h3⟩:=h
 simp only[Value.slice.injEq] at hv
 obtain⟨rfl,_,_⟩:=hv
 obtain⟨b,o,cs,t,e,hp,hb,hx⟩:=h3 (by intro h;subst h;simp at hi)
 exact⟨b,o,hp,by rw[cell_of_row w b (o+i) cs t e hb,hx i x hi];rfl,G1 hb⟩
theorem BytesAt.slice{w:World}{v:Value}{l:List UInt8}(h:BytesAt w v l):∃p c,v=.slice p l.length c/\l.length<=c:=by
 obtain⟨p,c,hv,h1,_,_⟩:=h
 exact⟨p,c,hv,h1⟩
theorem or_u64(y d:Nat)(hy:y<72057594037927936)(hd:d<256):bits .or .u64 ((y:Int)*256) (d:Int)=((y*256+d:Nat):Int):=by
 have h:=u64_or_nat (y*256) d E9 E9
 rw[or_byte y d hd] at h
 rw[<-h]
 simp
theorem leN_drop{l:List UInt8}{i:Nat}{x:UInt8}(hi:l[i]?=some x):leN (l.drop i)=leN (l.drop (i+1))*256+x.toNat:=by
 obtain⟨h,rfl⟩:=A3n.1 hi
 rw[A5q h,leN]
 omega
theorem beN_take{l:List UInt8}{i:Nat}{x:UInt8}(hi:l[i]?=some x):beN (l.take (i+1))=beN (l.take i)*256+x.toNat:=by
 obtain⟨h,rfl⟩:=A3n.1 hi
 rw[A4u h,A2H]
 omega
theorem little_any(v:Value)(l:List UInt8)(w:World)(hv:BytesAt w v l)(hl:l.length<=8) :
  Calls Tryz.prog 297 #[v] w fun e w'=>e=.returned (.int .u64 (leN l))/\w=w':=by
 obtain⟨p,c,rfl,hc⟩:=hv.slice
 have HV:=hid hv
 have hlt:∀i,leN (l.drop i)<256 ^ (l.length - i):=fun i=>by have:=leN_lt (l.drop i);rwa [A3H] at this
 have HL:=hid hlt
 have H0:=hid (show leN (l.drop l.length)=0 by simp[leN])
 obtain⟨n,hn⟩:∃n,n=l.length:=⟨_,rfl⟩
 rw[<-hn] at hl HL H0 HV hc |-
 have HN:=hid hn
 clear hv hlt hn
 go_enter Tryz.func297,Tryz.ntmps297
 go_wp2_with fail
 go_loop [3,4] (fun u3 i=>∃k:Nat,k<=n/\i=.int .i64 ((k:Int) - 1)/\u3=.int .u64 ((leN (l.drop k):Nat):Int)) (fun _ i=>(intOf i+1).toNat)
 case atStart=>exact⟨n,by omega,by simp,by rw[H0.out];rfl⟩
 case round =>
  obtain⟨k,hk,rfl,rfl⟩:=hrel
  by_cases hk0:0<k
  ·obtain⟨m,rfl⟩:∃m,k=m+1:=⟨k - 1,by omega⟩
   have hx:l[m]?=some (l.getD m 0):=get_some (by rw[<-HN.out];omega)
   obtain⟨b,o,rfl,hcell,_⟩:=HV.out.cell hx
   have hs:=hid (leN_drop hx)
   have h1:=HL.out (m+1)
   have hb:=(l.getD m 0).toNat_lt
   have hp:256 ^ (n - (m+1))<=256 ^ 7:=Nat.pow_le_pow_right E9 E9
   have h2:leN (l.drop (m+1))<72057594037927936:=by omega
   have ho:=hid (or_u64 (leN (l.drop (m+1))) _ h2 hb)
   clear hx h1 hp
   generalize (l.getD m 0).toNat=d at *
   generalize leN (l.drop (m+1))=y at *
   rw[show ((m+1:Nat):Int) - 1=(m:Int) by omega]
   have hmn:(m:Int)<(n:Int):=by omega
   go_wp2
   go_round
   case rel=>exact⟨m,by omega,by simp,by rw[hs.out,ho.out]⟩
   case measure=>simp[intOf]
  ·obtain rfl:k=0:=by omega
   go_wp2
   go_ret
   exact⟨rfl,rfl⟩
theorem A1P(v:Value)(l:List UInt8)(w:World)(hv:BytesAt w v l)(hl:l.length<=8) :
  Calls Tryz.prog 183 #[v] w fun e w'=>e=.returned (.int .u64 (beN l))/\w=w':=by
 obtain⟨p,c,rfl,hc⟩:=hv.slice
 have HV:=hid hv
 have hlt:∀i,i<l.length->beN (l.take i)<256 ^ i:=fun i hi=>by have:=beN_lt (l.take i);rwa [A3s,A5j E9] at this
 have HL:=hid hlt
 have H0:=hid (show beN (l.take 0)=0 by rw[A4g,beN_nil])
 have HE:=hid (show beN (l.take l.length)=beN l by rw[A5P])
 obtain⟨n,hn⟩:∃n,n=l.length:=⟨_,rfl⟩
 rw[<-hn] at hl HL HE HV hc |-
 have HN:=hid hn
 clear hv hlt hn
 go_enter Tryz.func183,Tryz.ntmps183
 go_wp2_with fail
 go_loop [3,5,8] (fun u3 u5 i=>∃k:Nat,k<=n/\i=.int .i64 (k:Int)/\u3=.int .u64 ((beN (l.take k):Nat):Int)) (fun _ _ i=>n - (intOf i).toNat)
 case atStart=>exact⟨0,by omega,by simp,by rw[H0.out];rfl⟩
 case round =>
  obtain⟨m,hk,rfl,rfl⟩:=hrel
  by_cases hk0:m<n
  ·have hx:l[m]?=some (l.getD m 0):=get_some (by rw[<-HN.out];omega)
   obtain⟨b,o,rfl,hcell,_⟩:=HV.out.cell hx
   have hs:=hid (beN_take hx)
   have h1:=HL.out m hk0
   have hb:=(l.getD m 0).toNat_lt
   have hp:256 ^ m<=256 ^ 7:=Nat.pow_le_pow_right E9 E9
   have h2:beN (l.take m)<72057594037927936:=by omega
   have ho:=hid (or_u64 (beN (l.take m)) _ h2 hb)
   clear hx h1 hp
   generalize (l.getD m 0).toNat=d at *
   generalize beN (l.take m)=y at *
   go_wp2
   go_round
   case rel=>exact⟨m+1,by omega,by go_num,by rw[hs.out,ho.out]⟩
   case measure=>simp[intOf];omega
  ·obtain rfl:m=n:=by omega
   go_wp2
   go_ret
   exact⟨by rw[<-HE.out];rfl,rfl⟩
end
section
end
section
theorem L5{w:World}{g o n c:Nat}{cs:Array Value}{t:TypeId}{fr:Nat × Nat}{l:List UInt8}(hg:blk w g=some (.cells cs t fr))(hn:l.length=n)(hc:n<=c)(h:∀i x,l[i]?=some x->cs[o+i]?=some (bv x)):BytesAt w (.slice (some ⟨g,o,none⟩) n c) l:=by
 subst hn
 exact⟨_,c,rfl,hc,(fun h=>by cases h),fun _=>⟨g,o,cs,t,fr,rfl,hg,h⟩⟩
theorem Y2{w:World}{g o n c:Nat}{L:List UInt8}{t:TypeId}{fr:Nat × Nat}(hg:blk w g=some (.cells (bvs L) t fr))(hL:o+n<=L.length)(hc:n<=c):BytesAt w (.slice (some ⟨g,o,none⟩) n c) ((L.drop o).take n):=by
 refine L5 hg E6 hc fun i x hi=>?_
 simp only[A4f,A4z] at hi
 split at hi
 ·exact bvs_at hi
 ·cases hi
end
section
theorem setRow_self{w:World}{g:Nat}{cs:Array Value}{t:TypeId}(h:blk w g=some (.cells cs t (0,0))):w.setRow g cs=w:=by
 have:=A3f h
 rw[<-T4 h];exact this.symm
theorem run_copy_bytes{P:Program}(w:World)(dT sT ty elem:TypeId)(hu:P.underlying dT=some (.slice elem))(hs:(P.info? elem).map (·.size)=some 1){g off dLen dCap:Nat}{cur:Array Value}{t:TypeId}{sv:Value}{L:List UInt8}
  (hg:blk w g=some (.cells cur t (0,0)))(hS:BytesAt w sv L)(hfit:off+(L.take dLen).length<=csz cur) :
  (Builtin.copy_ #[dT,sT] ty #[.slice (some ⟨g,off,none⟩) dLen dCap,sv]).run P w=.ok (.int .i64 ((L.take dLen).length:Int)) (w.setRow g (ovw cur off (L.take dLen))):=by
 obtain⟨p,c,rfl,hc,h0,h3⟩:=hS
 have hlen:((L.take dLen).map bv).length=Nat.min L.length dLen:=by simp[Nat.min_comm]
 by_cases hz:L.take dLen=[]
 ·have hmin:Nat.min L.length dLen=0:=by rw[<-hlen,hz];rfl
  rw[run_copy_none w dT sT ty elem (some ⟨g,off,none⟩) p dLen dCap L.length c hu hs hmin,hz,ovw_nil,setRow_self hg]
  rfl
 ·have hne:L≠[]:=fun e=>hz (by rw[e,List.take_nil])
  obtain⟨b,o,cs,t2,fr,rfl,hb,hx⟩:=h3 hne
  have:=run_copy_row (P:=P) w dT sT ty elem g off dLen dCap ⟨b,o,none⟩ L.length c cur t ((L.take dLen).map bv) hu hs hg hlen (fun j v hj=>by
   rw[A0l,cell_of_row w b (o+j) cs t2 fr hb]
   simp only[A3N,A4f] at hj
   split at hj
   ·cases hl:L[j]? with
    | none=>simp[hl] at hj
    | some x=>simp[hl] at hj;subst hj;exact hx j x hl
   ·simp at hj) (by rw[A3u,<-H5];exact hfit) Z5
  rw[this]
  congr 1
  ·simp[goInt]
  ·congr 1
   unfold ovw
   simp
theorem made_noughts(n:Nat):madeCells (Value.int .u8 0).cells n=bvs (zs n):=by
 apply A4N
 intro i
 by_cases h:i<n
 ·rw[zs_one n i h]
  have:(madeCells (Value.int .u8 0).cells n)[i]?=some ((Value.int .u8 0).cells[i % (Value.int .u8 0).cells.size]!):=by simp[madeCells,h]
  rw[this]
  have e:i % (Value.int .u8 0).cells.size=0:=by show i % 1=0;omega
  rw[e];rfl
 ·rw[A4v (by rw[size_madeCells];omega),A4v (by rw[A1l,zs_len];omega)]
theorem I4{w:World}{g n:Nat}{t:TypeId}{fr:Nat × Nat}{L:List UInt8}(h:blk w g=some (.cells (bvs L) t fr))(hn:L.length=n):BytesAt w (.slice (some ⟨g,0,none⟩) n n) L :=
 L5 h hn (A3t _) fun i x hi=>by rw[A3x];exact bvs_at hi
end
end
end Go.Proofs.YtlfbfbbdpcihfaaGreat
