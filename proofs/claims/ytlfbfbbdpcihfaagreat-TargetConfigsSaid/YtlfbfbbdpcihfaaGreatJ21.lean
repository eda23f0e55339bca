/- Laws that the claim uses. No condition of their own. -/
import Derived.Test.YtlfbfbbdpcihfaaGreatJ20
set_option maxRecDepth 100000
set_option maxHeartbeats 8000000
set_option linter.all false
namespace Go.Proofs.YtlfbfbbdpcihfaaGreat
section
open Go.ChangeShapes Go.WideShapes Go.ChangeAt Go.RowKit
theorem rounds8_any(key:List UInt8)(hk:key.length=32)(v:Value)(w:World)(hv:BytesAt w v key):Calls Tryz.prog 146 #[v] w (RoundsOf w (rkeys key)):=by
 obtain⟨p,c,rfl,hcap,_,hcs0⟩:=hv
 obtain⟨b,o,cs,t,fr,rfl,hb,hcs⟩:=hcs0 (by intro h;subst h;simp at hk)
 rw[hk] at hcap
 clear hcs0
 have h4:=kws_four (n:=8) E9 (by omega:key.length=4*8)
 have hRK:flat (rkeys key)=flat (kws key 8 60):=by rw[rkeys_flat,hk]
 have hR16:=A2B (key:=key) E9
 have hRL:(rkeys key).length=15:=by rw[rkeys_len,hk]
 have H4:=hid h4;have HRK:=hid hRK;have HR16:=hid hR16;have HRL:=hid hRL;have HB:=hid hb;have HCS:=hid hcs;have HK:=hid hk
 clear h4 hRK hR16 hRL hcs hb
 rw[HK.out]
 clear hk
 have z:=zs4;have zz:=zs16
 go_enter Tryz.func146,Tryz.ntmps146
 go_wp2_with (refine wp_make A1E rfl rfl (St.start w) 60 rfl rfl rfl E8 E8 ?_;intro w1 hG1)
 obtain⟨cur0,hs0,hS0⟩:=hG1.cells0
 clear hG1
 go_loopw [5,6] (fun u5 u6 wr=>∃(k:Nat)(cur:Array Value),k<=8/\u6=.int .i64 (4*(k:Int))/\u5=.slice (some ⟨w.heap.size,0,none⟩) k 60/\Beg cur (60*4) (flat (kws key 8 k))/\St w wr [(w.heap.size,cur,357)])
  (fun _ i _=>32 - (intOf i).toNat)
 case atStart=>exact⟨0,cur0,by omega,rfl,rfl,by rw[kws_zero];exact Beg.nil cur0 _ hs0,hS0⟩
 case round =>
  clear hS0 hs0
  obtain⟨k,cur,hkN,rfl,rfl,hBeg,hS⟩:=hrel
  by_cases hlt:k<8
  ·obtain⟨hc1,hc2⟩:=word_cut HCS.out k (by rw[HK.out];omega)
   have hwl:((key.drop (4*k)).take 4).length=4:=by simp[HK.out];omega
   have hsucc:=hid (A1A key 8 k)
   rw[if_pos hlt] at hsucc
   have HXl:=hid (show (flat (kws key 8 k)).length=k*4 by rw[A2R (H4.out k),X5])
   generalize (key.drop (4*k)).take 4=wd at *
   obtain⟨i,hI⟩:∃i:Int,i=4*(k:Int):=⟨_,rfl⟩
   have f0:0<=i:=by omega
   have f1:i<32:=by omega
   have f2:i+4<=32:=by omega
   have f3:i.toNat=4*k:=by omega
   have f4:(i+4).toNat=4*k+4:=by omega
   have f5:¬32=4*k:=by omega
   have f6:i<=i+4:=by omega
   have f7:i<=32:=by omega
   have f8:i+4<=(c:Int):=by omega
   have f9:i<=(c:Int):=by omega
   rw[<-hI]
   have HI:=hid hI
   clear hI
   have sw:csz (bvs wd)=4:=by rw[F3,hwl]
   have HWL:=hid hwl
   obtain⟨hb2,hb3,_⟩:=hS.far HB.out
   have HS:=hid (hS.alloc (bvs wd) 357)
   have HSrc:=hid (SrcAt.own (m:=1) (c:=1) (size:=4) (news:=wd.map bv) HS.out 0 rfl (by rw[A3u,hwl]) Z5 (fun j u hj=>by unfold bvs;simpa using hj))
   have HBeg:=hid hBeg
   clear hwl hS hBeg
   go_wp2_with (at_builtin;refine V9 A1E rfl rfl HS.out 1 rfl rfl HBeg.out HXl.out rfl HSrc.out E9 ?_;intro cur2 hB2 hS2)
   go_roundw
   case rel =>
    refine⟨k+1,cur2,by omega,by rw[HI.out];go_num,rfl,?_,hS2.tail⟩
    rw[hsucc.out,A0G];exact hB2
   case measure=>simp[intOf];omega
  ·obtain rfl:k=8:=by omega
   clear hlt hkN
   have HBeg0:=hid hBeg
   clear hBeg
   go_wp2_with fail
   go_loopw [5,7] (fun u5 u7 wr=>∃(k:Nat)(cur:Array Value),8<=k/\k<=60/\u7=.int .i64 k/\u5=.slice (some ⟨w.heap.size,0,none⟩) k 60/\Beg cur (60*4) (flat (kws key 8 k))/\St w wr [(w.heap.size,cur,357)])
    (fun _ i _=>60 - (intOf i).toNat)
   case atStart=>exact⟨8,cur,by omega,by omega,rfl,rfl,HBeg0.out,hS⟩
   case round =>
    clear hS HBeg0 cur
    obtain⟨k,cur,hkN,hkC,rfl,rfl,hBeg,hS⟩:=hrel
    by_cases hlt:k<60
    ·have hr1:=hBeg.row E9 (H4.out k) (kws_at (key:=key) (n:=8) (m:=k) (j:=k - 1) E9)
     have hr2:=hBeg.row E9 (H4.out k) (kws_at (key:=key) (n:=8) (m:=k) (j:=k - 8) E9)
     have hTW:=Z0 (H4.out k) (i:=k - 1) (by rw[X5];omega)
     have hPV:=Z0 (H4.out k) (i:=k - 8) (by rw[X5];omega)
     have hKW0:kword 8 k (kws key 8 k)=xorL (turnW ((kws key 8 k).getD (k - 1) []) 8 k) ((kws key 8 k).getD (k - 8) []):=by unfold kword;rfl
     have HXl:=hid (show (flat (kws key 8 k)).length=k*4 by rw[A2R (H4.out k),X5])
     have HRoom:Hid (k+1<=60):=hid E9
     generalize (kws key 8 k).getD (k - 1) []=tw at *
     generalize (kws key 8 k).getD (k - 8) []=pv at *
     have HPV:=hid hPV
     obtain⟨x0,x1,x2,x3,rfl⟩:=len4 hTW
     have HBeg:=hid hBeg
     obtain⟨r11,r12⟩:=hr1
     obtain⟨r21,r22⟩:=hr2
     have stw:csz (bvs [x0,x1,x2,x3])=4:=rfl
     have spv:csz (bvs pv)=4:=by rw[F3,hPV]
     clear hPV hTW hBeg
     have f1:(k:Int)<60:=by omega
     have f2:(0:Int)<=(k:Int) - 1:=by omega
     have f3:((k:Int) - 1).toNat=k - 1:=by omega
     have f4:(0:Int)<=(k:Int) - 8:=by omega
     have f5:((k:Int) - 8).toNat=k - 8:=by omega
     have f6:(k:Int) - 1<(k:Int):=by omega
     have f7:(k:Int) - 8<(k:Int):=by omega
     obtain⟨kb0,kc0,kf0,kl0,kn0⟩:=hS.at 0 rfl
     obtain⟨b8,hb8⟩:∃b8,b8=wr.heap.size:=⟨_,rfl⟩
     have hS8:=hS.alloc (bvs [x0,x1,x2,x3]) 357
     rw[<-hb8] at hS8
     clear hS
     by_cases hA:k % 8=0
     ·obtain⟨m,hm⟩:∃m,m=k / 8:=⟨_,rfl⟩
      rw[turnW_A hA,<-hm] at hKW0
      have gA:((k:Int) % 8 == 0)=true:=by simp;omega
      have gQ:(k:Int) / 8=(m:Int):=by omega
      have HM:=hid hm
      have HA:=hid hA
      clear hm hA
      have cS:=subWord_any [x1,x2,x3,x0] rfl
      simp only[A3X,List.map_nil,List.getD_cons_succ,List.getD_cons_zero] at hKW0 cS
      rw[xor_first] at hKW0
      generalize subB x1=s0 at *
      generalize subB x2=s1 at *
      generalize subB x3=s2 at *
      generalize subB x0=s3 at *
      have CS:=hid cS
      clear cS
      go_wp2_with fail
      with_reducible refine(rotate_any x0 x1 x2 x3 _).mono ?_
      rintro e w2 ⟨rfl,hb⟩
      rw[<-hb8] at *
      have hS9:=hS8.call hb
      clear hS8 hb kb0 kc0 kf0 kl0 kn0
      go_wp2_with fail
      with_reducible refine(CS.out _).mono ?_
      rintro e w3 ⟨rfl,hb⟩
      have hSA:=hS9.call hb
      clear hS9 hb
      generalize hcc:conB (m:Int)=cc at *
      have HCC:=hid hcc
      clear hcc
      have ss:csz (bvs [s0,s1,s2,s3])=4:=rfl
      have sc:csz (bvs [cc,0,0,0])=4:=rfl
      have gs:(bvs [s0,s1,s2,s3])[0]?=some (.int .u8 (s0.toNat:Int)):=rfl
      have gc:(bvs [cc,0,0,0])[0]?=some (.int .u8 (cc.toNat:Int)):=rfl
      have cC:=hid (constAll_any (m:Int))
      rw[HCC.out] at cC
      obtain⟨kb0,kc0,kf0,kl0,kn0⟩:=hSA.at 0 rfl
      go_wp2_with fail
      have hSB:=hSA.setRow 0 rfl (bvs [s0,s1,s2,s3])
      simp only[A3w] at hSB
      clear hSA kb0 kc0 kf0 kl0 kn0
      generalize w3.setRow b8 (bvs [s0,s1,s2,s3])=W3 at *
      refine Y8 E7 E7 ?_
      dsimp only[List.dropLast,List.getLast?,List.getLast,Option.getD]
      repeat ((refine BigFrame.wpQuiet_want rfl (fun K hK=>?_);apply Exists.intro;refine⟨fun w' hw'=>?_,hK _ ?_⟩;(focus (have zS:=hSB.cls hw';obtain⟨zb0,zc0,zf0,zl0,zn0⟩:=zS.at 0 rfl;clear zS;go_simp;(try (go_bits;go_simp));first|rfl|((go_at_call 213;exact hw'.call (cC.out _)))));clear hK K;simp only[Act.put,A3v,A3w,A3z]))
      refine wpQuiet_nil ?_
      intro w4 hc
      have hSC:=hSB.cls hc
      clear hSB hc
      obtain⟨kb0,kc0,kf0,kl0,kn0⟩:=hSC.at 0 rfl;obtain⟨kb1,kc1,kf1,kl1,kn1⟩:=hSC.at 1 rfl
      have hd:¬b8=w.heap.size:=by have:=hSC.2.2;simpa using this
      have hd2:¬w.heap.size=b8:=fun h=>hd h.symm
      have hST:=hSC.setCell 0 rfl 0 (.int .u8 (bits .xor .u8 (s0.toNat:Int) (cc.toNat:Int)))
      simp only[A3w] at hST
      rw[Y9,V5,A3w] at hST
      have HTT:Hid ([s0 ^^^ cc,s1,s2,s3].length=4):=hid rfl
      have hKW:=hKW0
      have hx8:=Y9 s0 cc
      generalize [s0 ^^^ cc,s1,s2,s3]=tt at *
      clear hKW0
      go_wp2_with fail
      go_loopw [9,10,92] (fun u9 u10 u92 wr=>∃j:Nat,j<=4/\u92=.int .i64 j/\St w wr [(b8,bvs (xorN tt pv j),357),(w.heap.size,cur,357)])
       (fun _ _ i _=>4 - (intOf i).toNat)
      case atStart=>exact⟨0,by omega,rfl,by rw[A2v];exact hST⟩
      case round =>
       clear hST
       obtain⟨j,hj,rfl,hS⟩:=hrel
       by_cases hlt2:j<4
       ·have hx:=K7 (l:=xorN tt pv j) (k:=j) (by rw[A1C,HTT.out];omega)
        rw[A2Z tt pv j j (A3t j)] at hx
        have hy:=K7 (l:=pv) (k:=j) (by rw[HPV.out];omega)
        generalize hX:(tt).getD j 0=a1 at hx
        generalize hY:pv.getD j 0=a2 at hy
        have HX1:=hid hX;have HY1:=hid hY;clear hX hY
        have f16:(j:Int)<4:=by omega
        obtain⟨kb0,kc0,kf0,kl0,kn0⟩:=hS.at 0 rfl
        go_wp2
        go_roundw
        case rel =>
         refine⟨j+1,by omega,by go_num,?_⟩
         have h3:=hS.setCell 0 rfl j (.int .u8 (bits .xor .u8 (a1.toNat:Int) (a2.toNat:Int)))
         simp only[A3w] at h3
         rw[Y9,V5,show (xorN tt pv j).set j (a1 ^^^ a2)=xorN tt pv (j+1) by rw[Z7,HX1.out,HY1.out]] at h3
         rw[Y9]
         exact h3
        case measure=>simp[intOf];omega
       ·obtain rfl:j=4:=by omega
        rw[A2G tt pv (by rw[HTT.out,HPV.out]) 4 HTT.out] at hS
        clear hlt2 hj
        have hw4:=P2 tt pv 4 HTT.out HPV.out
        have sw:csz (bvs (xorL tt pv))=4:=by rw[F3,hw4]
        have HW:=hid hKW
        have HW4:=hid hw4
        have HS:=hid (hS.alloc (bvs (xorL tt pv)) 357)
        have HSrc:=hid (SrcAt.own (m:=1) (c:=1) (size:=4) (news:=(xorL tt pv).map bv) HS.out 0 rfl (by rw[A3u,hw4]) Z5 (fun j u hj=>by unfold bvs;simpa using hj))
        obtain⟨kb0,kc0,kf0,kl0,kn0⟩:=hS.at 0 rfl
        clear hS hw4 hKW
        go_wp2_with (at_builtin;refine V9 A1E rfl rfl HS.out 2 rfl rfl HBeg.out HXl.out rfl HSrc.out HRoom.out ?_;intro cur2 hB2 hS2)
        go_roundw
        case rel =>
         have h4:=hS2.tail.tail
         have hB3:Beg cur2 (60*4) (flat (kws key 8 (k+1))):=by
          rw[A1A,if_neg E9,HW.out,A0G]
          exact hB2
         ((repeat apply Exists.intro);exact⟨⟨k+1,cur2,by omega,by omega,by go_num,rfl,hB3,h4⟩,rfl⟩)
        case measure=>simp[intOf];omega
     ·by_cases hB4:k % 8=4
      ·rw[turnW_B hA ⟨by omega,hB4⟩] at hKW0
       have gA:((k:Int) % 8 == 0)=false:=by simp;omega
       have gB:((k:Int) % 8 == 4)=true:=by simp;omega
       have HA:=hid hA;have HB4:=hid hB4
       clear hA hB4
       have cS:=subWord_any [x0,x1,x2,x3] rfl
       simp only[A3X,List.map_nil] at hKW0 cS
       generalize subB x1=s1 at *
       generalize subB x2=s2 at *
       generalize subB x3=s3 at *
       generalize subB x0=s0 at *
       have CS:=hid cS
       clear cS
       go_wp2_with fail
       with_reducible refine(CS.out _).mono ?_
       rintro e w3 ⟨rfl,hb⟩
       rw[<-hb8] at *
       have hSC:=hS8.call hb
       clear hS8 hb kb0 kc0 kf0 kl0 kn0
       obtain⟨kb0,kc0,kf0,kl0,kn0⟩:=hSC.at 0 rfl;obtain⟨kb1,kc1,kf1,kl1,kn1⟩:=hSC.at 1 rfl
       have hd:¬b8=w.heap.size:=by have:=hSC.2.2;simpa using this
       have hd2:¬w.heap.size=b8:=fun h=>hd h.symm
       have ss:csz (bvs [s0,s1,s2,s3])=4:=rfl
       have hST:=hSC.setRow 0 rfl (bvs [s0,s1,s2,s3])
       simp only[A3w] at hST
       have HTT:Hid ([s0,s1,s2,s3].length=4):=hid rfl
       have hKW:=hKW0
       generalize [s0,s1,s2,s3]=tt at *
       clear hKW0
       go_wp2_with fail
       go_loopw [9,10,92] (fun u9 u10 u92 wr=>∃j:Nat,j<=4/\u92=.int .i64 j/\St w wr [(b8,bvs (xorN tt pv j),357),(w.heap.size,cur,357)])
        (fun _ _ i _=>4 - (intOf i).toNat)
       case atStart=>exact⟨0,by omega,rfl,by rw[A2v];exact hST⟩
       case round =>
        clear hST
        obtain⟨j,hj,rfl,hS⟩:=hrel
        by_cases hlt2:j<4
        ·have hx:=K7 (l:=xorN tt pv j) (k:=j) (by rw[A1C,HTT.out];omega)
         rw[A2Z tt pv j j (A3t j)] at hx
         have hy:=K7 (l:=pv) (k:=j) (by rw[HPV.out];omega)
         generalize hX:(tt).getD j 0=a1 at hx
         generalize hY:pv.getD j 0=a2 at hy
         have HX1:=hid hX;have HY1:=hid hY;clear hX hY
         have f16:(j:Int)<4:=by omega
         obtain⟨kb0,kc0,kf0,kl0,kn0⟩:=hS.at 0 rfl
         go_wp2
         go_roundw
         case rel =>
          refine⟨j+1,by omega,by go_num,?_⟩
          have h3:=hS.setCell 0 rfl j (.int .u8 (bits .xor .u8 (a1.toNat:Int) (a2.toNat:Int)))
          simp only[A3w] at h3
          rw[Y9,V5,show (xorN tt pv j).set j (a1 ^^^ a2)=xorN tt pv (j+1) by rw[Z7,HX1.out,HY1.out]] at h3
          rw[Y9]
          exact h3
         case measure=>simp[intOf];omega
        ·obtain rfl:j=4:=by omega
         rw[A2G tt pv (by rw[HTT.out,HPV.out]) 4 HTT.out] at hS
         clear hlt2 hj
         have hw4:=P2 tt pv 4 HTT.out HPV.out
         have sw:csz (bvs (xorL tt pv))=4:=by rw[F3,hw4]
         have HW:=hid hKW
         have HW4:=hid hw4
         have HS:=hid (hS.alloc (bvs (xorL tt pv)) 357)
         have HSrc:=hid (SrcAt.own (m:=1) (c:=1) (size:=4) (news:=(xorL tt pv).map bv) HS.out 0 rfl (by rw[A3u,hw4]) Z5 (fun j u hj=>by unfold bvs;simpa using hj))
         obtain⟨kb0,kc0,kf0,kl0,kn0⟩:=hS.at 0 rfl
         clear hS hw4 hKW
         go_wp2_with (at_builtin;refine V9 A1E rfl rfl HS.out 2 rfl rfl HBeg.out HXl.out rfl HSrc.out HRoom.out ?_;intro cur2 hB2 hS2)
         go_roundw
         case rel =>
          have h4:=hS2.tail.tail
          have hB3:Beg cur2 (60*4) (flat (kws key 8 (k+1))):=by
           rw[A1A,if_neg E9,HW.out,A0G]
           exact hB2
          ((repeat apply Exists.intro);exact⟨⟨k+1,cur2,by omega,by omega,by go_num,rfl,hB3,h4⟩,rfl⟩)
         case measure=>simp[intOf];omega
      ·rw[turnW_C hA E9] at hKW0
       have gA:((k:Int) % 8 == 0)=false:=by simp;omega
       have gB:((k:Int) % 8 == 4)=false:=by simp;omega
       have HA:=hid hA
       clear hA
       have HTT:Hid ([x0,x1,x2,x3].length=4):=hid rfl
       have hKW:=hKW0
       have hST:=hS8
       generalize [x0,x1,x2,x3]=tt at *
       clear hKW0
       go_wp2_with fail
       rw[<-hb8]
       clear hb8
       go_loopw [9,10,92] (fun u9 u10 u92 wr=>∃j:Nat,j<=4/\u92=.int .i64 j/\St w wr [(b8,bvs (xorN tt pv j),357),(w.heap.size,cur,357)])
        (fun _ _ i _=>4 - (intOf i).toNat)
       case atStart=>exact⟨0,by omega,rfl,by rw[A2v];exact hST⟩
       case round =>
        clear hST
        obtain⟨j,hj,rfl,hS⟩:=hrel
        by_cases hlt2:j<4
        ·have hx:=K7 (l:=xorN tt pv j) (k:=j) (by rw[A1C,HTT.out];omega)
         rw[A2Z tt pv j j (A3t j)] at hx
         have hy:=K7 (l:=pv) (k:=j) (by rw[HPV.out];omega)
         generalize hX:(tt).getD j 0=a1 at hx
         generalize hY:pv.getD j 0=a2 at hy
         have HX1:=hid hX;have HY1:=hid hY;clear hX hY
         have f16:(j:Int)<4:=by omega
         obtain⟨kb0,kc0,kf0,kl0,kn0⟩:=hS.at 0 rfl
         go_wp2
         go_roundw
         case rel =>
          refine⟨j+1,by omega,by go_num,?_⟩
          have h3:=hS.setCell 0 rfl j (.int .u8 (bits .xor .u8 (a1.toNat:Int) (a2.toNat:Int)))
          simp only[A3w] at h3
          rw[Y9,V5,show (xorN tt pv j).set j (a1 ^^^ a2)=xorN tt pv (j+1) by rw[Z7,HX1.out,HY1.out]] at h3
          rw[Y9]
          exact h3
         case measure=>simp[intOf];omega
        ·obtain rfl:j=4:=by omega
         rw[A2G tt pv (by rw[HTT.out,HPV.out]) 4 HTT.out] at hS
         clear hlt2 hj
         have hw4:=P2 tt pv 4 HTT.out HPV.out
         have sw:csz (bvs (xorL tt pv))=4:=by rw[F3,hw4]
         have HW:=hid hKW
         have HW4:=hid hw4
         have HS:=hid (hS.alloc (bvs (xorL tt pv)) 357)
         have HSrc:=hid (SrcAt.own (m:=1) (c:=1) (size:=4) (news:=(xorL tt pv).map bv) HS.out 0 rfl (by rw[A3u,hw4]) Z5 (fun j u hj=>by unfold bvs;simpa using hj))
         obtain⟨kb0,kc0,kf0,kl0,kn0⟩:=hS.at 0 rfl
         clear hS hw4 hKW
         go_wp2_with (at_builtin;refine V9 A1E rfl rfl HS.out 2 rfl rfl HBeg.out HXl.out rfl HSrc.out HRoom.out ?_;intro cur2 hB2 hS2)
         go_roundw
         case rel =>
          have h4:=hS2.tail.tail
          have hB3:Beg cur2 (60*4) (flat (kws key 8 (k+1))):=by
           rw[A1A,if_neg E9,HW.out,A0G]
           exact hB2
          ((repeat apply Exists.intro);exact⟨⟨k+1,cur2,by omega,by omega,by go_num,rfl,hB3,h4⟩,rfl⟩)
         case measure=>simp[intOf];omega
    ·obtain rfl:k=60:=by omega
     clear hlt hkN hkC
     have h44:=H4.out 60
     have hflat:=HRK.out
     have hat:=fun j=>kws_at (key:=key) (n:=8) (m:=60) (j:=j)
     have hl44:=X5 key 8 60
     generalize kws key 8 60=ws at *
     have HBeg:=hid hBeg;have HW4:=hid h44;have HFL:=hid hflat;have HAT:=hid hat;have HL:=hid hl44;have HS:=hid hS
     clear hBeg h44 hflat hat hl44 hS
     go_wp2_with (refine wp_make_full elem_277 rfl rfl HS.out 15 rfl rfl rfl rfl E8 E8 ?_;intro w2 cur2 hs2 _ hS2;have HS2:=hid hs2;clear hs2)
     generalize wr.heap.size=n2 at *
     go_loopw [12,13,113] (fun u12 u13 u113 wr=>∃(k:Nat)(cur2:Array Value),k<=60/\u113=.int .i64 k/\Beg cur2 (15*16) (flat (ws.take k))/\St w wr [(n2,cur2,274),(w.heap.size,cur,357)])
      (fun _ _ i _=>60 - (intOf i).toNat)
     case atStart=>exact⟨0,cur2,by omega,rfl,by rw[A4g];exact Beg.nil cur2 _ HS2.out,hS2⟩
     case round =>
      clear hS2 HS2
      obtain⟨k,cur2,hkC,rfl,hB2,hS⟩:=hrel
      by_cases hlt:k<60
      ·obtain⟨hr1,hr2⟩:=HBeg.out.row E9 HW4.out (HAT.out k hlt)
       have hwl:=Z0 HW4.out (i:=k) (by rw[HL.out];exact hlt)
       have hsucc:ws.take (k+1)=ws.take k++[ws.getD k []]:=by
        have hk:k<ws.length:=by rw[HL.out];exact hlt
        rw[A4u hk]
        simp[A3I,A3p hk]
       have HSU:=hid hsucc
       have HXl:=hid (show (flat (ws.take k)).length=k*4 by rw[A2R (fun x hx=>HW4.out x (List.mem_of_mem_take hx)),A3s,HL.out,A5j (Nat.le_of_lt hlt)])
       generalize ws.getD k []=wd at *
       obtain⟨q,r,hk,hr⟩:∃q r,k=4*q+r/\r<4:=⟨k / 4,k % 4,by omega,by omega⟩
       have gq:(k:Int) / 4=(q:Int):=by omega
       have gr:(k:Int) % 4=(r:Int):=by omega
       have q0:(q:Int)<15:=by omega
       have g0:(0:Int)<=4*(r:Int):=by omega
       have g1:4*(r:Int)<=16:=by omega
       have g2:(4*(r:Int)).toNat=4*r:=by omega
       have g3:¬16=4*r:=by omega
       have g4:(k:Int)<60:=by omega
       have sw:csz (bvs wd)=4:=by rw[F3,hwl]
       have HWL:=hid hwl;have HKQ:=hid hk;have HR:=hid hr
       have HB2:=hid hB2
       have s2:csz cur2=15*16:=by rw[H5];exact hB2.1
       clear hwl hk hsucc hB2
       obtain⟨kb1,kc1,kf1,kl1,kn1⟩:=hS.at 1 rfl
       go_wp2_with fail
       have hS3:=hS.alloc (bvs wd) 357
       clear hS kb1 kc1 kf1 kl1 kn1
       generalize hn1:wr.heap.size=n1 at *
       generalize wr.alloc (.cells (bvs wd) 357)=W at *
       clear hn1
       refine F6 9 E7 E7 ?_
       dsimp only[List.take,List.drop]
       repeat ((refine M4 (fun _=>rfl) (fun K hK=>?_);apply Exists.intro;refine⟨fun pB w' hw' hF=>?_,hK _ _ ?_⟩;(focus (have zS:=hS3.cls hw';obtain⟨zb0,zc0,zf0,zl0,zn0⟩:=zS.at 0 rfl;obtain⟨zb1,zc1,zf1,zl1,zn1⟩:=zS.at 1 rfl;obtain⟨zb2,zc2,zf2,zl2,zn2⟩:=zS.at 2 rfl;clear zS;(skip);(skip);(skip);go_simp;(try (go_bits;go_simp));rfl));clear hK K;simp only[Act.put,A3v,A3w,A3z]))
       refine wpM_nil ?_
       intro p w' hc hF hN
       have hS4:=hS3.cls hc
       clear hF hN hS3 hc
       dsimp only
       refine wpList_copy_own rfl (.tmp 125) (.tmp 126) 23 23 rfl 5 E7 E7 n2 (q*16+4*r) (16 - 4*r) (16 - 4*r) ⟨n1,0,none⟩ 4 4 rfl rfl cur2 274 (hS4.blk 1 rfl) (wd.map bv) ?len (fun j v hj=>?src) ?fit Z5 ?_
       case len =>
        rw[A3u,HWL.out]
        have:=HR.out
        show 4=min 4 (16 - 4*r)
        omega
       case src =>
        rw[A0l,A3x,(hS4.at 0 rfl).2.1 j]
        unfold bvs
        simpa using hj
       case fit =>
        have:=HR.out
        rw[A3u,HWL.out,HB2.out.1]
        omega
       have e:q*16+4*r=(flat (ws.take k)).length:=by rw[HXl.out,HKQ.out];omega
       rw[e]
       have hB5:=HB2.out.write (wd.map bv) (by rw[HXl.out,A3u,HWL.out];omega)
       have h5:=hS4.setRow 1 rfl ((cur2.toList.take (flat (ws.take k)).length++(wd.map bv++cur2.toList.drop ((flat (ws.take k)).length+(wd.map bv).length))).toArray)
       generalize (cur2.toList.take (flat (ws.take k)).length++(wd.map bv++cur2.toList.drop ((flat (ws.take k)).length+(wd.map bv).length))).toArray=cur3 at *
       simp only[A3w,A3z] at h5
       generalize w'.setRow n2 cur3=W5 at *
       have HB5:=hid hB5
       clear hS4 hB5 e
       go_wp2
       go_roundw
       case rel =>
        have h6:=h5.tail
        have hB6:=HB5.out
        rw[<-A0G,<-HSU.out] at hB6
        exact⟨k+1,cur3,by omega,by go_num,hB6,h6⟩
       case measure=>simp[intOf];omega
      ·obtain rfl:k=60:=by omega
       clear hlt hkC
       rw[A3B (by rw[HL.out];omega)] at hB2
       have hB:=hS.below
       have hblk:=hS.blk 0 rfl
       clear hS
       rw[<-HFL.out] at hB2
       have HROW:=hid (fun (i:Nat) (k:List UInt8) (hi:(rkeys key)[i]?=some k)=>hB2.row E9 HR16.out hi)
       have HBL:=hid hblk
       clear hB2 hblk
       go_wp2
       go_ret2
       unfold RoundsOf
       exact⟨.slice (some ⟨n2,0,none⟩) 15 15,rfl,⟨HR16.out,_,15,by rw[HRL.out],(fun h=>by cases h),fun i k hi=>⟨n2,0,cur2,_,_,rfl,HBL.out,by rw[A3x];exact(HROW.out i k hi).1,by rw[A3x];exact(HROW.out i k hi).2⟩⟩,hB⟩
end
end Go.Proofs.YtlfbfbbdpcihfaaGreat
