import Derived.Test.YthijbipidbjpfaaGreatDoorZP17
import Derived.Test.YthijbipidbjpfaaGreatDoorZP00
import Derived.Test.YthijbipidbjpfaaGreatDoorZP03
import Derived.Test.YthijbipidbjpfaaGreatDoorZP25
import Derived.Test.YthijbipidbjpfaaGreatDoorZP18
import Derived.BigQuiet
set_option linter.unusedSimpArgs false
set_option linter.unusedVariables false
set_option maxRecDepth 100000
set_option maxHeartbeats 8000000
namespace Go.Proofs.YthijbipidbjpfaaGreatDoor
open Go.RowKit Go.Maps
theorem okW_iff(x:Wr):okW x=true↔(0≤x.1∧x.1<256)∧(0≤x.2.1∧x.2.1<256)∧(0≤x.2.2∧x.2.2≤8):=by
 unfold okW;simp only[Bool.and_eq_true,Bool.or_eq_true,decide_eq_true_eq];omega
def oneE(b:Bool):Int:=if b then 0 else 2
theorem one_any(s f c:Int)(w:World){b:Bool}(h:okW (s,f,c)=b):Calls Tryz.prog 165 #[.agg #[.int .i64 s,.int .i64 f,.int .i64 c]] w fun e w'=>e=.returned (.int .i64 (oneE b))∧Below w.heap.size w w':=by
 have H:=Lib.hid h;clear h
 go_enter Tryz.func165,Tryz.ntmps165
 go_wp2
 all_goals
  go_ret
  refine⟨ret_int ?_,zbl⟩
  have h:=H.out
  have hi:=okW_iff (s,f,c)
  rw[h] at hi
  cases b
  ·first | rfl | (exfalso;simp only[Bool.false_eq_true,false_iff] at hi;omega)
  ·first | rfl | (exfalso;simp only[true_iff] at hi;omega)
theorem hit_one(pre:List Wr)(y x:Wr):hit (pre++[y]) x=(hit pre x || (decide (y.1=x.1) || (decide (y.2.1=x.2.1) || (decide (x.2.2≠0) && decide (y.2.2=x.2.2))))):=by simp[hit,List.any_append]
theorem chkG_at{l:List Wr}{k:Nat}{x:Wr}(h:l[k]? = some x) :
  chkG (l.take k) (l.drop k)=if okW x then (if hit (l.take k) x then (7,k) else chkG (l.take (k+1)) (l.drop (k+1))) else (2,k):=by
 obtain⟨hk,rfl⟩:=List.getElem?_eq_some_iff.1 h;rw[List.drop_eq_getElem_cons hk,chkG,List.take_succ_eq_append_getElem hk];have:(l.take k).length=k:=by simp;omega
 rw[this]
theorem hit_mono{l:List Wr}{x:Wr}{i j:Nat}(hij:i≤j)(h:hit (l.take i) x=true):hit (l.take j) x=true:=by
 unfold hit at h ⊢;rw[List.any_eq_true] at h ⊢;obtain⟨y,hy,h⟩:=h;exact⟨y,(List.take_subset_take_left l hij) hy,h⟩
theorem RCheck_any(A:Option Addr)(c:Nat)(l:List Wr)(w:World)(ha:SW w A l)(la:l.length≤1000){z:Int}{n:Nat}(h:chkS l=(z,n)) :
  Calls Tryz.prog 131 #[.slice A l.length c] w fun e w'=>e=.returned (.tuple #[.int .i64 z,.int .i64 n])∧Below w.heap.size w w':=by
 have HA:=Lib.hid ha;clear ha
 by_cases h16:16<l.length
 ·have hS:chkS l=(5,0):=by unfold chkS;rw[if_pos h16]
  rw[hS] at h;obtain⟨rfl,rfl⟩:=Prod.mk.inj h;have h16':(16:Int)<l.length:=by omega
  clear hS h
  go_enter Tryz.func131,Tryz.ntmps131
  go_wp2
  refine bodyPost_ret (by simp[results,Tryz.results131,go_sem] <;> rfl) rfl ?_;exact⟨rfl,Below.refl _ _⟩
 ·have hS:chkG [] l=(z,n):=by rw[←h];unfold chkS;rw[if_neg h16]
  have HS:=Lib.hid hS;clear hS h;have h16':(l.length:Int)≤16:=by omega
  go_enter Tryz.func131,Tryz.ntmps131
  go_wp2
  go_loopw [4] (fun i wr=>∃ k:Nat,k≤l.length∧i=.int .i64 k∧Hid (chkG [] l=chkG (l.take k) (l.drop k))∧Below w.heap.size w wr) (fun i _=>l.length - (intOf i).toNat)
  case atStart=>exact⟨0,by omega,rfl,by show _=_;simp,Below.refl _ _⟩
  case round=>
   obtain⟨k,hk,rfl,HR,hbw⟩:=hrel
   by_cases hlt:k<l.length
   ·obtain⟨b,off,x,rfl,hbl,hx,q0,q1,q2⟩:=(HA.out.ext hbw).at_ hlt
    have i1:(k:Int)<l.length:=by omega
    have HR':=HR.out;rw[chkG_at hx] at HR';have HX:=Lib.hid hx;clear hx HR
    cases hok:okW x with
    | false=>
     rw[hok,HS.out,if_neg (by simp)] at HR';obtain⟨rfl,rfl⟩:=Prod.mk.inj HR';clear HR'
     go_wp2_with (first | (go_at_call 165;with_reducible refine (one_any _ _ _ _ hok).mono ?_;rintro e w1 ⟨rfl,hb1⟩;simp only[oneE,Bool.false_eq_true,if_false]))
     refine bodyPost_ret (by simp[results,Tryz.results131,go_sem] <;> rfl) rfl ?_;exact⟨rfl,zbl⟩
    | true=>
     rw[hok,if_pos rfl] at HR';have HRR:=Lib.hid HR';clear HR'
     go_wp2_with (first | (go_at_call 165;with_reducible refine (one_any _ _ _ _ hok).mono ?_;rintro e w1 ⟨rfl,hb1⟩;simp only[oneE,if_true]))
     have hbw1:=zbt hbw hb1;have H1:Hid (SW w1 (some ⟨b,off,none⟩) l):=HA.out.ext hbw1;have r0:=cell_keep hb1 q0 hbl;have r1:=cell_keep hb1 q1 hbl;have r2:=cell_keep hb1 q2 hbl;have hbl1:b<w1.heap.size:=Nat.lt_of_lt_of_le hbl hb1.size;clear q0 q1 q2
     go_loopw [6] (fun i wr=>∃ j:Nat,j≤k∧i=.int .i64 j∧Hid (hit (l.take j) x=false)∧Below w1.heap.size w1 wr) (fun i _=>k - (intOf i).toNat)
     case atStart=>exact⟨0,by omega,rfl,by show _=_;simp[hit],Below.refl _ _⟩
     case round=>
      obtain⟨j,hj,rfl,HJ,hbj⟩:=hrel;have s0:=cell_keep hbj r0 hbl1;have s1:=cell_keep hbj r1 hbl1;have s2:=cell_keep hbj r2 hbl1
      by_cases hjk:j<k
      ·obtain⟨b',off',y,e',hbl',hy,t0,t1,t2⟩:=(H1.out.ext hbj).at_ (show j<l.length by omega)
       injection e' with e'
       injection e' with e1 e2
       subst e1 e2;have j1:(j:Int)<l.length:=by omega
       have j2:(j:Int)<k:=by omega
       have HT:Hid (hit (l.take (j+1)) x=(decide (y.1=x.1) || (decide (y.2.1=x.2.1) || (decide (x.2.2≠0) && decide (y.2.2=x.2.2))))):=by
        show _=_;obtain⟨hj',rfl⟩:=List.getElem?_eq_some_iff.1 hy;rw[List.take_succ_eq_append_getElem hj',hit_one,HJ.out];simp
       have hret:hit (l.take (j+1)) x=true→(7=z∧k=n):=fun h=>by
        have:=HRR.out;rw[if_pos (hit_mono (by omega) h),HS.out] at this;obtain⟨h1,h2⟩:=Prod.mk.inj this;exact⟨h1.symm,h2.symm⟩
       clear hy r0 r1 r2 hbl'
       by_cases e1:y.1=x.1
       ·have e1b:(y.1 == x.1)=true:=by simpa using e1
        go_wp2_with fail
        go_quiet (fail)
        go_wp2_with fail;refine bodyPost_ret (by simp[results,Tryz.results131,go_sem] <;> rfl) rfl ?_;obtain⟨rfl,rfl⟩:=hret (by rw[HT.out];simp[*]);exact⟨rfl,hbw1.trans ((show Below w1.heap.size w1 _ from zbl).mono hbw1.size)⟩
       ·have e1b:(y.1 == x.1)=false:=by simpa using e1
        by_cases e2:y.2.1=x.2.1
        ·have e2b:(y.2.1 == x.2.1)=true:=by simpa using e2
         go_wp2_with fail
         go_quiet (fail)
         go_wp2_with fail;refine bodyPost_ret (by simp[results,Tryz.results131,go_sem] <;> rfl) rfl ?_;obtain⟨rfl,rfl⟩:=hret (by rw[HT.out];simp[*]);exact⟨rfl,hbw1.trans ((show Below w1.heap.size w1 _ from zbl).mono hbw1.size)⟩
        ·have e2b:(y.2.1 == x.2.1)=false:=by simpa using e2
         by_cases e3:x.2.2=0
         ·rw[e3] at s2
          have E3:=Lib.hid e3;clear e3;go_wp2_with fail
          go_quiet (fail)
          go_wp2_with fail
          go_roundw
          case rel=>exact⟨j+1,by omega,by go_num,by show _=_;rw[HT.out];have:=E3.out;simp[*],zbl⟩
          case measure=>simp[intOf];omega
         ·have e3b:(x.2.2 != 0)=true:=by simpa using e3
          have e3c:(x.2.2 == 0)=false:=by simpa using e3
          by_cases e4:y.2.2=x.2.2
          ·have e4b:(y.2.2 == x.2.2)=true:=by simpa using e4
           go_wp2_with fail
           go_quiet (fail)
           go_wp2_with fail;refine bodyPost_ret (by simp[results,Tryz.results131,go_sem] <;> rfl) rfl ?_;obtain⟨rfl,rfl⟩:=hret (by rw[HT.out];simp[*]);exact⟨rfl,hbw1.trans ((show Below w1.heap.size w1 _ from zbl).mono hbw1.size)⟩
          ·have e4b:(y.2.2 == x.2.2)=false:=by simpa using e4
           go_wp2_with fail
           go_quiet (fail)
           go_wp2_with fail
           go_roundw
           case rel=>exact⟨j+1,by omega,by go_num,by show _=_;rw[HT.out];simp[*],zbl⟩
           case measure=>simp[intOf];omega
      ·obtain rfl:j=k:=by omega
       go_wp2_with fail
       go_roundw
       case rel=>
        have hr:=HRR.out;rw[HJ.out,if_neg (by simp)] at hr;exact⟨j+1,by omega,by go_num,hr,hbw1.trans (hbj.mono hbw1.size)⟩
       case measure=>simp[intOf];omega
   ·have hd:l.drop k=[]:=List.drop_eq_nil_of_le (by omega)
    have hz:=HR.out;rw[hd,chkG,HS.out] at hz;obtain⟨rfl,rfl⟩:=Prod.mk.inj hz;clear hz HR HS hd
    go_wp2
    refine bodyPost_ret (by simp[results,Tryz.results131,go_sem] <;> rfl) rfl ?_;exact⟨rfl,zbl⟩
theorem rown_any(A:Option Addr)(c:Nat)(l:List Wr)(w:World)(ha:SW w A l)(la:l.length≤1000) :
  Calls Tryz.prog 117 #[.slice A l.length c] w fun e w'=>∃ A c,e=.returned (.slice A l.length c)∧CanApp w' w.heap.size A c l∧Mine w' w.heap.size A c l∧Below w.heap.size w w':=by
 have HA:=Lib.hid ha;clear ha
 go_enter Tryz.func117,Tryz.ntmps117
 go_wp2_with (at_builtin;refine wpList_appW rfl (.tmp 3) (.tmp 4) rfl _ w.heap.size (by simp) (some ⟨w.heap.size,0,none⟩) 0 0 [] rfl (.inl ⟨rfl,SW.nil⟩) A c l.length l rfl (HA.out.ext zbl) (by simp;omega) rfl rfl ?_;intro A' c' w1 hc1 hb1 hm1)
 go_ret;exact⟨A',c',rfl,hc1,hm1 (.inr (.inl rfl)),zbl⟩
def askS(l:List Wr)(s f p:Int):Int:=if (chkS l).1≠0 then (chkS l).1 else if okW (s,f,0)=true∧(1≤p∧p≤8) then 0 else 2
theorem asks_any(A:Option Addr)(c:Nat)(l:List Wr)(s f p:Int)(w:World)(ha:SW w A l)(la:l.length≤1000){z:Int}(h:askS l s f p=z) :
  Calls Tryz.prog 116 #[.slice A l.length c,.int .i64 s,.int .i64 f,.int .i64 p] w fun e w'=>e=.returned (.int .i64 z)∧Below w.heap.size w w':=by
 have HA:=Lib.hid ha;clear ha;obtain⟨⟨y,n⟩,hk⟩:∃ r,chkS l=r:=⟨_,rfl⟩;unfold askS at h;rw[hk] at h;have HK:=Lib.hid hk;clear hk
 by_cases hy:y=0
 ·subst hy
  rw[if_neg (by simp)] at h
  cases hok:okW (s,f,0) with
  | false=>
   rw[hok,if_neg (by simp)] at h;subst h
   go_enter Tryz.func116,Tryz.ntmps116
   go_wp2_with (first | (go_at_call 131;with_reducible refine (RCheck_any _ _ _ _ HA.out la HK.out).mono ?_;rintro e w1 ⟨rfl,hb1⟩) | (go_at_call 165;with_reducible refine (one_any _ _ _ _ hok).mono ?_;rintro e w2 ⟨rfl,hb2⟩;simp only[oneE,Bool.false_eq_true,if_false]))
   go_ret;exact⟨rfl,zbl⟩
  | true=>
   rw[hok] at h
   by_cases hp:1≤p∧p≤8
   ·rw[if_pos ⟨rfl,hp⟩] at h
    subst h;obtain⟨p1,p2⟩:=hp
    go_enter Tryz.func116,Tryz.ntmps116
    go_wp2_with (first | (go_at_call 131;with_reducible refine (RCheck_any _ _ _ _ HA.out la HK.out).mono ?_;rintro e w1 ⟨rfl,hb1⟩) | (go_at_call 165;with_reducible refine (one_any _ _ _ _ hok).mono ?_;rintro e w2 ⟨rfl,hb2⟩;simp only[oneE,if_true]))
    go_ret;exact⟨rfl,zbl⟩
   ·rw[if_neg (fun h=>hp h.2)] at h
    subst h
    rcases (by omega:p<1∨(1≤p∧8<p)) with p1 | ⟨p1,p2⟩
    all_goals
     go_enter Tryz.func116,Tryz.ntmps116
     go_wp2_with (first | (go_at_call 131;with_reducible refine (RCheck_any _ _ _ _ HA.out la HK.out).mono ?_;rintro e w1 ⟨rfl,hb1⟩) | (go_at_call 165;with_reducible refine (one_any _ _ _ _ hok).mono ?_;rintro e w2 ⟨rfl,hb2⟩;simp only[oneE,if_true]))
     go_ret
     exact⟨rfl,zbl⟩
 ·rw[if_pos hy] at h
  subst h;have hyb:(y == 0)=false:=by simpa using hy
  go_enter Tryz.func116,Tryz.ntmps116
  go_wp2_with (first | (go_at_call 131;with_reducible refine (RCheck_any _ _ _ _ HA.out la HK.out).mono ?_;rintro e w1 ⟨rfl,hb1⟩))
  go_ret;exact⟨rfl,zbl⟩
def rfnS(l:List Wr)(s:Int):Int:=match l.findIdx? (fun x=>decide (x.1=s)) with | none => -1 | some i=>(i:Int)
theorem findIdx_take{p:Wr→Bool}{l:List Wr}{k:Nat}(h:∀ j:Nat,j<k→∀ x,l[j]? = some x→p x=false)(hk:l.length≤k):l.findIdx? p=none:=by
 rw[List.findIdx?_eq_none_iff];intro x hx;obtain⟨j,hj,rfl⟩:=List.getElem_of_mem hx;exact h j (by omega) _ (List.getElem?_eq_getElem hj)
theorem findIdx_hit{p:Wr→Bool}{l:List Wr}{k:Nat}{x:Wr}(h:∀ j:Nat,j<k→∀ x,l[j]? = some x→p x=false)(hx:l[k]? = some x)(hp:p x=true):l.findIdx? p=some k:=by
 obtain⟨hk,rfl⟩:=List.getElem?_eq_some_iff.1 hx;rw[List.findIdx?_eq_some_iff_getElem];exact⟨hk,hp,fun j hj=>by rw[h j hj _ (List.getElem?_eq_getElem (by omega))];simp⟩
theorem rfind_any(A:Option Addr)(c:Nat)(l:List Wr)(s:Int)(w:World)(ha:SW w A l)(la:l.length≤1000) :
  Calls Tryz.prog 154 #[.slice A l.length c,.int .i64 s] w fun e w'=>e=.returned (.int .i64 (rfnS l s))∧Below w.heap.size w w':=by
 have HA:=Lib.hid ha;clear ha
 go_enter Tryz.func154,Tryz.ntmps154
 go_wp2
 go_loopw [5] (fun i wr=>∃ k:Nat,k≤l.length∧i=.int .i64 k∧Hid (∀ j:Nat,j<k→∀ x,l[j]? = some x→decide (x.1=s)=false)∧Below w.heap.size w wr) (fun i _=>l.length - (intOf i).toNat)
 case atStart=>exact⟨0,by omega,rfl,fun j hj=>absurd hj (by omega),Below.refl _ _⟩
 case round=>
  obtain⟨k,hk,rfl,HR,hbw⟩:=hrel
  by_cases hlt:k<l.length
  ·obtain⟨b,off,x,rfl,hbl,hx,q0,q1,q2⟩:=(HA.out.ext hbw).at_ hlt
   have i1:(k:Int)<l.length:=by omega
   have HX:=Lib.hid hx;clear hx
   by_cases e1:x.1=s
   ·have HF:Hid (rfnS l s=k):=by show _=_;unfold rfnS;rw[findIdx_hit HR.out HX.out (by simpa using e1)]
    have e1':(x.1 == s)=true:=by simpa using e1
    go_wp2
    go_ret;exact⟨ret_int HF.out.symm,zbl⟩
   ·have e1':(x.1 == s)=false:=by simpa using e1
    go_wp2
    go_roundw
    case rel=>
     refine⟨k+1,by omega,by go_num,fun j hj y hy => ?_,zbl⟩
     rcases (by omega:j<k∨j=k) with h | rfl
     ·exact HR.out j h y hy
     ·rw[HX.out] at hy
      injection hy with hy
      subst hy;simpa using e1
    case measure=>simp[intOf];omega
  ·have HF:Hid (rfnS l s = -1):=by show _=_;unfold rfnS;rw[findIdx_take HR.out (by omega)]
   go_wp2
   go_ret;exact⟨ret_int HF.out.symm,zbl⟩
def prtE(s:Swp):Int:=if s.cap<1∨16<s.cap then 2 else if (chkT s.sl).1≠0 then (chkT s.sl).1 else if (chkS s.wr).1≠0 then (chkS s.wr).1 else if (chkD s.dk).1≠0 then (chkD s.dk).1 else (chkP s.po).1
theorem chkW_prt(s:Swp):chkW s=if prtE s≠0 then prtE s else if agW s then 0 else 3:=by
 unfold chkW prtE
 by_cases h0:s.cap<1∨16<s.cap
 ·rw[if_pos h0,if_pos h0];rfl
 rw[if_neg h0,if_neg h0]
 by_cases h1:(chkT s.sl).1≠0
 ·rw[if_pos h1,if_pos h1,if_pos h1]
 rw[if_neg h1,if_neg h1]
 by_cases h2:(chkS s.wr).1≠0
 ·rw[if_pos h2,if_pos h2,if_pos h2]
 rw[if_neg h2,if_neg h2]
 by_cases h3:(chkD s.dk).1≠0
 ·rw[if_pos h3,if_pos h3,if_pos h3]
 rw[if_neg h3,if_neg h3]
theorem prt_ok{s:Swp}(h:prtE s=0):OkT s.sl∧Valid s.wr∧OkD s.dk∧OkP s.po:=by
 unfold prtE at h
 by_cases h0:s.cap<1∨16<s.cap
 ·rw[if_pos h0] at h;cases h
 rw[if_neg h0] at h
 by_cases h1:(chkT s.sl).1≠0
 ·rw[if_pos h1] at h;exact absurd h h1
 rw[if_neg h1] at h
 by_cases h2:(chkS s.wr).1≠0
 ·rw[if_pos h2] at h;exact absurd h h2
 rw[if_neg h2] at h
 by_cases h3:(chkD s.dk).1≠0
 ·rw[if_pos h3] at h;exact absurd h h3
 rw[if_neg h3] at h;exact⟨chkT_ok.1 (by simpa using h1),chkS_ok.1 (by simpa using h2),chkD_ok.1 (by simpa using h3),chkP_ok h⟩
theorem rwParts_any(L:Lay)(s:Swp)(w:World)(h:SwR w L s)(hf:Few s):Calls Tryz.prog 64 #[swV L s] w fun e w'=>e=.returned (.int .i64 (prtE s))∧Below w.heap.size w w':=by
 obtain⟨a0,c0,a1,c1,a2,c2,a3,c3,a4,c4,a5,c5,a6,c6,a7,c7⟩:=L;have HS:=Lib.hid h;obtain⟨f0,f1,f2,f3,f4,f5,f6,f7⟩:=hf;obtain⟨R,hR⟩:∃ R,prtE s=R:=⟨_,rfl⟩;rw[hR];have HR:=Lib.hid hR;clear h hR;unfold swV swC;obtain⟨X,hX⟩:∃ X,w.alloc (.cells (zkx s a0 c0 a1 c1 a2 c2 a3 c3 a4 c4 a5 c5 a6 c6 a7 c7).toArray 35)=X:=⟨_,rfl⟩;have kX:Blk X w.heap.size 35 (zkx s a0 c0 a1 c1 a2 c2 a3 c3 a4 c4 a5 c5 a6 c6 a7 c7).toArray:=by rw[←hX];exact zbk
 have BX:Below w.heap.size w X:=by rw[←hX];exact zbl
 have zX:=kX.lt;obtain⟨q0,-⟩:=zc11 kX
 by_cases p0:s.cap<1
 ·have HE:Hid (R=2):=by show _=_;rw[←HR.out];unfold prtE;rw[if_pos (.inl p0)]
  have b0:decide (s.cap<1)=true:=by simpa using p0
  clear p0
  go_enter Tryz.func64,Tryz.ntmps64
  go_wp2_with fail;go_ret;exact⟨by rw[HE.out];rfl,BX⟩
 ·have b0:decide (s.cap<1)=false:=by simpa using p0
  by_cases p1:16<s.cap
  ·have HE:Hid (R=2):=by show _=_;rw[←HR.out];unfold prtE;rw[if_pos (.inr p1)]
   have b1:decide (s.cap>16)=true:=by simpa using p1
   clear p0 p1
   go_enter Tryz.func64,Tryz.ntmps64
   go_wp2_with fail;go_ret;exact⟨by rw[HE.out];rfl,BX⟩
  ·have b1:decide (s.cap>16)=false:=by simpa using p1
   have HC:Hid (¬ (s.cap<1∨16<s.cap)):=fun h=>h.elim p0 p1
   clear p0 p1
   go_enter Tryz.func64,Tryz.ntmps64
   obtain⟨⟨z1,n1⟩,hz1⟩:∃ r,chkT s.sl=r:=⟨_,rfl⟩;have HZ1:=Lib.hid hz1;clear hz1;obtain⟨-,q1,q2,-⟩:=zc11 kX;go_wp2_with fail;(try rw[hX]);clear hX;refine (rsCheck_any a0 a1 c0 c1 s.sl X (HS.out.r0.ext BX) (by omega) (by omega) HZ1.out).mono ?_;rintro e1 w1 ⟨rfl,hb1⟩;have B1:=zbt BX hb1;replace kX:=kX.below_ hb1 kX.lt;clear hb1;clear q1 q2;clear zX
   by_cases y1:z1=0
   ·subst y1
    obtain⟨⟨z2,n2⟩,hz2⟩:∃ r,chkS s.wr=r:=⟨_,rfl⟩;have HZ2:=Lib.hid hz2;clear hz2;obtain⟨-,-,-,q3,-⟩:=zc11 kX;have zX:=kX.lt;go_wp2_with fail;refine (RCheck_any a2 c2 s.wr w1 (HS.out.r2.ext B1).sw (by omega) HZ2.out).mono ?_;rintro e2 w2 ⟨rfl,hb2⟩;have B2:=zbt B1 hb2;replace kX:=kX.below_ hb2 kX.lt;clear hb2;clear q3;clear zX
    by_cases y2:z2=0
    ·subst y2
     obtain⟨⟨z3,n3⟩,hz3⟩:∃ r,chkD s.dk=r:=⟨_,rfl⟩;have HZ3:=Lib.hid hz3;clear hz3;obtain⟨-,-,-,-,-,-,q6,q7,q8,-⟩:=zc11 kX;have zX:=kX.lt;go_wp2_with fail;refine (rdCheck_any a5 a6 c5 c6 s.dk w2 (HS.out.r6.ext B2) (by omega) (by omega) HZ3.out).mono ?_;rintro e3 w3 ⟨rfl,hb3⟩;have B3:=zbt B2 hb3;replace kX:=kX.below_ hb3 kX.lt;clear hb3;clear q6 q7 q8;clear zX
     by_cases y3:z3=0
     ·subst y3
      obtain⟨⟨z4,n4⟩,hz4⟩:∃ r,chkP s.po=r:=⟨_,rfl⟩;have HZ4:=Lib.hid hz4;clear hz4;obtain⟨-,-,-,-,-,-,-,-,-,q9,q10⟩:=zc11 kX;have zX:=kX.lt;go_wp2_with fail;refine (rpCheck_any a7 c7 s.po w3 (HS.out.r7.ext B3) (by omega) HZ4.out).mono ?_;rintro e4 w4 ⟨rfl,hb4⟩;have B4:=zbt B3 hb4;replace kX:=kX.below_ hb4 kX.lt;clear hb4;clear q9 q10;clear zX;have HE:Hid (R=z4):=by show _=_;rw[←HR.out];unfold prtE;rw[if_neg HC.out,HZ1.out,if_neg (by simp),HZ2.out,if_neg (by simp),HZ3.out,if_neg (by simp),HZ4.out]
      go_wp2_with fail;go_ret;exact⟨by rw[HE.out];rfl,B4⟩
     ·have HE:Hid (R=z3):=by show _=_;rw[←HR.out];unfold prtE;rw[if_neg HC.out,HZ1.out,if_neg (by simp),HZ2.out,if_neg (by simp),HZ3.out,if_pos (by simpa using y3)]
      have yb:(z3 == 0)=false:=by simpa using y3
      clear y3;go_wp2_with fail;go_ret;exact⟨by rw[HE.out];rfl,B3⟩
    ·have HE:Hid (R=z2):=by show _=_;rw[←HR.out];unfold prtE;rw[if_neg HC.out,HZ1.out,if_neg (by simp),HZ2.out,if_pos (by simpa using y2)]
     have yb:(z2 == 0)=false:=by simpa using y2
     clear y2;go_wp2_with fail;go_ret;exact⟨by rw[HE.out];rfl,B2⟩
   ·have HE:Hid (R=z1):=by show _=_;rw[←HR.out];unfold prtE;rw[if_neg HC.out,HZ1.out,if_pos (by simpa using y1)]
    have yb:(z1 == 0)=false:=by simpa using y1
    clear y1;go_wp2_with fail;go_ret;exact⟨by rw[HE.out];rfl,B1⟩
theorem rwJob_any(L:Lay)(s:Swp)(n:Int)(w:World)(h:SR jbE w L.a6 s.dk.jobs)(hf:s.dk.jobs.length≤1000):Calls Tryz.prog 68 #[swV L s,.int .i64 n] w fun e w'=>e=.returned (.int .i64 (jobI s.dk.jobs n))∧Below w.heap.size w w':=by
 obtain⟨a0,c0,a1,c1,a2,c2,a3,c3,a4,c4,a5,c5,a6,c6,a7,c7⟩:=L;have HS:=Lib.hid h;obtain⟨R,hR⟩:∃ R,jobI s.dk.jobs n=R:=⟨_,rfl⟩;rw[hR];have HR:=Lib.hid hR;clear h hR;unfold swV swC;obtain⟨X,hX⟩:∃ X,w.alloc (.cells (zkx s a0 c0 a1 c1 a2 c2 a3 c3 a4 c4 a5 c5 a6 c6 a7 c7).toArray 35)=X:=⟨_,rfl⟩;have kX:Blk X w.heap.size 35 (zkx s a0 c0 a1 c1 a2 c2 a3 c3 a4 c4 a5 c5 a6 c6 a7 c7).toArray:=by rw[←hX];exact zbk
 have BX:Below w.heap.size w X:=by rw[←hX];exact zbl
 have zX:=kX.lt
 go_enter Tryz.func68,Tryz.ntmps68
 go_wp2_with fail;(try rw[hX]);clear hX
 go_loopw [5] (fun i wr=>∃ k:Nat,k≤s.dk.jobs.length∧i=.int .i64 k∧Hid (∀ y ∈ s.dk.jobs.take k,y.slot≠n)∧Below X.heap.size X wr) (fun i _=>s.dk.jobs.length - (intOf i).toNat)
 case atStart=>exact⟨0,by omega,rfl,fun y hy=>by simp at hy,Below.refl _ _⟩
 case round=>
  obtain⟨k,hk,rfl,HN,hbw⟩:=hrel;have b1:=BX.trans (hbw.mono BX.size);have kX1:=kX.below_ hbw zX;have zX1:=kX1.lt;obtain⟨-,-,-,-,-,-,-,q7,-⟩:=zc11 kX1
  by_cases hlt:k<s.dk.jobs.length
  ·obtain⟨b,off,x,rfl,hbl,hx,hc⟩:=(HS.out.ext b1).at_ (k:=k) hlt
   obtain⟨jw,js,jf,jd⟩:=x;have e1:wr.cell? ⟨b,off+k*11+1,none⟩=some (.int .i64 js):=hc 1 _ rfl;have i1:(k:Int)<s.dk.jobs.length:=by omega
   have HX:=Lib.hid hx;clear hc hx
   by_cases e:js=n
   ·have HE:Hid (R=k):=by
     show _=_;rw[←HR.out];unfold jobI;rw[List.findIdx?_eq_some_iff_getElem.2 ⟨hlt,by have:=HX.out;rw[List.getElem?_eq_getElem hlt] at this;injection this with this;rw[this];simpa using e,fun j hj=>by have:=HN.out _ (List.mem_of_getElem? (by rw[List.getElem?_take_of_lt hj];exact List.getElem?_eq_getElem (by omega)));simpa using this⟩]
    have eb:(js == n)=true:=by simpa using e
    clear e;go_wp2_with fail;go_ret;exact⟨by rw[HE.out];rfl,b1⟩
   ·have eb:(js == n)=false:=by simpa using e
    have HN2:Hid (∀ y ∈ s.dk.jobs.take (k+1),y.slot≠n):=by
     show ∀ y ∈ _,_
     rw[List.take_add_one,HX.out];intro y hy
     rcases List.mem_append.1 hy with hy | hy
     ·exact HN.out y hy
     ·simp at hy;rw[hy];exact e
    clear e;go_wp2_with fail
    go_roundw
    case rel=>exact⟨k+1,by omega,by go_num,HN2.out,hbw⟩
    case measure=>simp[intOf];omega
  ·have HE:Hid (R = -1):=by
    show _=_;rw[←HR.out];unfold jobI;have:=HN.out;rw[List.take_of_length_le (by omega)] at this;rw[List.findIdx?_eq_none_iff.2 fun y hy=>by simpa using this y hy]
   go_wp2_with fail;go_ret;exact⟨by rw[HE.out];rfl,b1⟩
theorem tmsL_succ{l:List Wr}{k:Nat}{x:Wr}{p:Int}(h:l[k]? = some x):tmsL (l.take (k+1)) p=tmsL (l.take k) p+if x.2.2=p then 1 else 0:=by
 unfold tmsL;rw[List.take_add_one,h,List.countP_append];simp[List.countP_cons]
theorem wtdL_succ{l:List Wr}{k:Nat}{x:Wr}{n:Int}(h:l[k]? = some x):wtdL (l.take (k+1)) n=(wtdL (l.take k) n || (decide (x.1=n) && decide (x.2.2≠0))):=by
 unfold wtdL;rw[List.take_add_one,h,List.any_append];simp
theorem wtdL_of{l:List Wr}{x:Wr}{n:Int}(h:x ∈ l)(h1:x.1=n)(h2:x.2.2≠0):wtdL l n=true:=List.any_eq_true.2 ⟨x,h,by simp[h1,h2]⟩
theorem rwTimes_any(L:Lay)(s:Swp)(p:Int)(w:World)(h:SwR w L s)(hf:Few s):Calls Tryz.prog 67 #[swV L s,.int .i64 p] w fun e w'=>e=.returned (.int .i64 ((tmsL (s.wr++s.rd) p:Nat):Int))∧Below w.heap.size w w':=by
 obtain⟨a0,c0,a1,c1,a2,c2,a3,c3,a4,c4,a5,c5,a6,c6,a7,c7⟩:=L;have HS:=Lib.hid h;have f2:=hf.f2;have f3:=hf.f3;clear h hf;unfold swV swC;obtain⟨X,hX⟩:∃ X,w.alloc (.cells (zkx s a0 c0 a1 c1 a2 c2 a3 c3 a4 c4 a5 c5 a6 c6 a7 c7).toArray 35)=X:=⟨_,rfl⟩;have kX:Blk X w.heap.size 35 (zkx s a0 c0 a1 c1 a2 c2 a3 c3 a4 c4 a5 c5 a6 c6 a7 c7).toArray:=by rw[←hX];exact zbk
 have BX:Below w.heap.size w X:=by rw[←hX];exact zbl
 have zX:=kX.lt
 go_enter Tryz.func67,Tryz.ntmps67
 go_wp2_with fail;(try rw[hX]);clear hX
 go_loopw [5,6] (fun c i wr=>∃ k m:Nat,k≤s.wr.length∧i=.int .i64 k∧c=.int .i64 m∧Hid (m=tmsL (s.wr.take k) p)∧Below X.heap.size X wr) (fun _ i _=>s.wr.length - (intOf i).toNat)
 case atStart=>exact⟨0,0,by omega,rfl,rfl,rfl,Below.refl _ _⟩
 case round=>
  obtain⟨k,m,hk,rfl,rfl,HM,hbw⟩:=hrel;have b1:=BX.trans (hbw.mono BX.size);have kX1:=kX.below_ hbw kX.lt;have zX1:=kX1.lt;obtain⟨-,-,-,q3,-⟩:=zc11 kX1;have hm:m≤2000:=by rw[HM.out];unfold tmsL;have h1:=List.countP_le_length (p:=fun v:Wr=>decide (v.2.2=p)) (l:=s.wr.take k);have h2:=List.countP_le_length (p:=fun v:Wr=>decide (v.2.2=p)) (l:=s.wr);simp only[List.length_take] at h1;omega
  by_cases hlt:k<s.wr.length
  ·obtain⟨b,off,x,rfl,hbl,hx,hc⟩:=(HS.out.r2.ext b1).at_ (k:=k) hlt
   have e1:wr.cell? ⟨b,off+k*3+2,none⟩=some (.int .i64 x.2.2):=hc 2 _ rfl;have i1:(k:Int)<s.wr.length:=by omega
   have HT:=Lib.hid (tmsL_succ (p:=p) hx);clear hc hx
   by_cases e:x.2.2=p
   ·have eb:(x.2.2 == p)=true:=by simpa using e
    have HM2:Hid (m+1=tmsL (s.wr.take (k+1)) p):=by show _=_;have h1:=HT.out;rw[if_pos e] at h1;have h2:=HM.out;omega
    clear e;go_wp2_with fail
    go_roundw
    case rel=>exact⟨k+1,m+1,by omega,by go_num,by go_num,HM2.out,hbw⟩
    case measure=>simp[intOf];omega
   ·have eb:(x.2.2 == p)=false:=by simpa using e
    have HM2:Hid (m=tmsL (s.wr.take (k+1)) p):=by show _=_;have h1:=HT.out;rw[if_neg e] at h1;have h2:=HM.out;omega
    clear e;go_wp2_with fail
    go_roundw
    case rel=>exact⟨k+1,m,by omega,by go_num,rfl,HM2.out,hbw⟩
    case measure=>simp[intOf];omega
  ·have HM2:Hid (m=tmsL s.wr p):=by have:=HM.out;rwa [List.take_of_length_le (by omega)] at this
   obtain⟨wo,rfl⟩:∃ wo,wo=wr:=⟨_,rfl⟩;go_wp2_with fail;clear HM q3 zX1;replace HM:=HM2;clear HM2
   go_loopw [5,7] (fun c i wr=>∃ k m:Nat,k≤s.rd.length∧i=.int .i64 k∧c=.int .i64 m∧Hid (m=tmsL s.wr p+tmsL (s.rd.take k) p)∧Below wo.heap.size wo wr) (fun _ i _=>s.rd.length - (intOf i).toNat)
   case atStart=>exact⟨0,m,by omega,rfl,rfl,HM.out,Below.refl _ _⟩
   case round=>
    obtain⟨k,m,hk,rfl,rfl,HM,hbw⟩:=hrel;have b1:=b1.trans (hbw.mono b1.size);have kX1:=kX1.below_ hbw kX1.lt;have zX1:=kX1.lt;obtain⟨-,-,-,-,q4,-⟩:=zc11 kX1;have hm:m≤2000:=by rw[HM.out];unfold tmsL;have h1:=List.countP_le_length (p:=fun v:Wr=>decide (v.2.2=p)) (l:=s.rd.take k);have h2:=List.countP_le_length (p:=fun v:Wr=>decide (v.2.2=p)) (l:=s.wr);simp only[List.length_take] at h1;omega
    by_cases hlt:k<s.rd.length
    ·obtain⟨b,off,x,rfl,hbl,hx,hc⟩:=(HS.out.r3.ext b1).at_ (k:=k) hlt
     have e1:wr.cell? ⟨b,off+k*3+2,none⟩=some (.int .i64 x.2.2):=hc 2 _ rfl;have i1:(k:Int)<s.rd.length:=by omega
     have HT:=Lib.hid (tmsL_succ (p:=p) hx);clear hc hx
     by_cases e:x.2.2=p
     ·have eb:(x.2.2 == p)=true:=by simpa using e
      have HM2:Hid (m+1=tmsL s.wr p+tmsL (s.rd.take (k+1)) p):=by show _=_;have h1:=HT.out;rw[if_pos e] at h1;have h2:=HM.out;omega
      clear e;go_wp2_with fail
      go_roundw
      case rel=>exact⟨k+1,m+1,by omega,by go_num,by go_num,HM2.out,hbw⟩
      case measure=>simp[intOf];omega
     ·have eb:(x.2.2 == p)=false:=by simpa using e
      have HM2:Hid (m=tmsL s.wr p+tmsL (s.rd.take (k+1)) p):=by show _=_;have h1:=HT.out;rw[if_neg e] at h1;have h2:=HM.out;omega
      clear e;go_wp2_with fail
      go_roundw
      case rel=>exact⟨k+1,m,by omega,by go_num,rfl,HM2.out,hbw⟩
      case measure=>simp[intOf];omega
    ·have HM2:Hid (m=tmsL s.wr p+tmsL s.rd p):=by have:=HM.out;rwa [List.take_of_length_le (by omega)] at this
     have HE:Hid (tmsL (s.wr++s.rd) p=m):=by show _=_;rw[HM2.out];unfold tmsL;rw[List.countP_append]
     go_wp2_with fail;go_ret;exact⟨ret_int (by rw[HE.out]),b1⟩
theorem rwWaited_any(L:Lay)(s:Swp)(n:Int)(w:World)(h:SwR w L s)(hf:Few s):Calls Tryz.prog 69 #[swV L s,.int .i64 n] w fun e w'=>e=.returned (.bool (wtdL (s.wr++s.rd) n))∧Below w.heap.size w w':=by
 obtain⟨a0,c0,a1,c1,a2,c2,a3,c3,a4,c4,a5,c5,a6,c6,a7,c7⟩:=L;have HS:=Lib.hid h;have f2:=hf.f2;have f3:=hf.f3;obtain⟨R,hR⟩:∃ R,wtdL (s.wr++s.rd) n=R:=⟨_,rfl⟩;rw[hR];have HR:=Lib.hid hR;clear h hf hR;unfold swV swC;obtain⟨X,hX⟩:∃ X,w.alloc (.cells (zkx s a0 c0 a1 c1 a2 c2 a3 c3 a4 c4 a5 c5 a6 c6 a7 c7).toArray 35)=X:=⟨_,rfl⟩;have kX:Blk X w.heap.size 35 (zkx s a0 c0 a1 c1 a2 c2 a3 c3 a4 c4 a5 c5 a6 c6 a7 c7).toArray:=by rw[←hX];exact zbk
 have BX:Below w.heap.size w X:=by rw[←hX];exact zbl
 have zX:=kX.lt
 go_enter Tryz.func69,Tryz.ntmps69
 go_wp2_with fail;(try rw[hX]);clear hX
 go_loopw [5] (fun i wr=>∃ k:Nat,k≤s.wr.length∧i=.int .i64 k∧Hid (wtdL (s.wr.take k) n=false)∧Below X.heap.size X wr) (fun i _=>s.wr.length - (intOf i).toNat)
 case atStart=>exact⟨0,by omega,rfl,rfl,Below.refl _ _⟩
 case round=>
  obtain⟨k,hk,rfl,HN,hbw⟩:=hrel;have b1:=BX.trans (hbw.mono BX.size);have kX1:=kX.below_ hbw kX.lt;have zX1:=kX1.lt;obtain⟨-,-,-,q3,-⟩:=zc11 kX1
  by_cases hlt:k<s.wr.length
  ·obtain⟨b,off,x,rfl,hbl,hx,hc⟩:=(HS.out.r2.ext b1).at_ (k:=k) hlt
   have e1:wr.cell? ⟨b,off+k*3,none⟩=some (.int .i64 x.1):=hc 0 _ rfl;have e2:wr.cell? ⟨b,off+k*3+2,none⟩=some (.int .i64 x.2.2):=hc 2 _ rfl;have i1:(k:Int)<s.wr.length:=by omega
   have HT:=Lib.hid (wtdL_succ (n:=n) hx);have HX:=Lib.hid (List.mem_of_getElem? hx);clear hc hx
   cases g1:(x.1 == n) with
   | false=>
    have h1:¬ x.1=n:=by simpa using g1
    have HN2:Hid (wtdL (s.wr.take (k+1)) n=false):=by show _=_;rw[HT.out,HN.out];simp[h1]
    go_wp2_with fail
    go_roundw
    case rel=>exact⟨k+1,by omega,by go_num,HN2.out,hbw⟩
    case measure=>simp[intOf];omega
   | true=>
    have h1:x.1=n:=by simpa using g1
    cases g2:(x.2.2 != 0) with
    | false=>
     have h2:x.2.2=0:=by simpa using g2
     have HN2:Hid (wtdL (s.wr.take (k+1)) n=false):=by show _=_;rw[HT.out,HN.out];simp[h2]
     clear h1 h2;go_wp2_with fail
     go_roundw
     case rel=>exact⟨k+1,by omega,by go_num,HN2.out,hbw⟩
     case measure=>simp[intOf];omega
    | true=>
     have h2:x.2.2≠0:=by simpa using g2
     have HE:Hid (R=true):=by show _=_;rw[←HR.out];exact wtdL_of (by simp[HX.out]) h1 h2
     clear h1 h2;go_wp2_with fail;go_ret;exact⟨ret_bool HE.out.symm,b1⟩
  ·have HN2:Hid (wtdL s.wr n=false):=by have:=HN.out;rwa [List.take_of_length_le (by omega)] at this
   obtain⟨wo,rfl⟩:∃ wo,wo=wr:=⟨_,rfl⟩;have HW2:=HN2;go_wp2_with fail;clear HN HN2 q3 zX1
   go_loopw [6] (fun i wr=>∃ k:Nat,k≤s.rd.length∧i=.int .i64 k∧Hid (wtdL (s.rd.take k) n=false)∧Below wo.heap.size wo wr) (fun i _=>s.rd.length - (intOf i).toNat)
   case atStart=>exact⟨0,by omega,rfl,rfl,Below.refl _ _⟩
   case round=>
    obtain⟨k,hk,rfl,HN,hbw⟩:=hrel;have b1:=b1.trans (hbw.mono b1.size);have kX1:=kX1.below_ hbw kX1.lt;have zX1:=kX1.lt;obtain⟨-,-,-,-,q4,-⟩:=zc11 kX1
    by_cases hlt:k<s.rd.length
    ·obtain⟨b,off,x,rfl,hbl,hx,hc⟩:=(HS.out.r3.ext b1).at_ (k:=k) hlt
     have e1:wr.cell? ⟨b,off+k*3,none⟩=some (.int .i64 x.1):=hc 0 _ rfl;have e2:wr.cell? ⟨b,off+k*3+2,none⟩=some (.int .i64 x.2.2):=hc 2 _ rfl;have i1:(k:Int)<s.rd.length:=by omega
     have HT:=Lib.hid (wtdL_succ (n:=n) hx);have HX:=Lib.hid (List.mem_of_getElem? hx);clear hc hx
     cases g1:(x.1 == n) with
     | false=>
      have h1:¬ x.1=n:=by simpa using g1
      have HN2:Hid (wtdL (s.rd.take (k+1)) n=false):=by show _=_;rw[HT.out,HN.out];simp[h1]
      go_wp2_with fail
      go_roundw
      case rel=>exact⟨k+1,by omega,by go_num,HN2.out,hbw⟩
      case measure=>simp[intOf];omega
     | true=>
      have h1:x.1=n:=by simpa using g1
      cases g2:(x.2.2 != 0) with
      | false=>
       have h2:x.2.2=0:=by simpa using g2
       have HN2:Hid (wtdL (s.rd.take (k+1)) n=false):=by show _=_;rw[HT.out,HN.out];simp[h2]
       clear h1 h2;go_wp2_with fail
       go_roundw
       case rel=>exact⟨k+1,by omega,by go_num,HN2.out,hbw⟩
       case measure=>simp[intOf];omega
      | true=>
       have h2:x.2.2≠0:=by simpa using g2
       have HE:Hid (R=true):=by show _=_;rw[←HR.out];exact wtdL_of (by simp[HX.out]) h1 h2
       clear h1 h2;go_wp2_with fail;go_ret;exact⟨ret_bool HE.out.symm,b1⟩
    ·have HN2:Hid (wtdL s.rd n=false):=by have:=HN.out;rwa [List.take_of_length_le (by omega)] at this
     have HE:Hid (R=false):=by show _=_;rw[←HR.out];have h1:=HW2.out;have h2:=HN2.out;unfold wtdL at h1 h2 ⊢;rw[List.any_append,h1,h2];rfl
     go_wp2_with fail;go_ret;exact⟨ret_bool HE.out.symm,b1⟩
theorem mtG_w{s f:Int}{d:Ct}{js:List Jb}{v:Wr}{ws rs:List Wr}:mtG (⟨true,s,f,d⟩::js) (v::ws) rs=(decide (v.1=s∧v.2.1=f) && mtG js ws rs):=rfl
theorem mtG_r{s f:Int}{d:Ct}{js:List Jb}{v:Wr}{ws rs:List Wr}:mtG (⟨false,s,f,d⟩::js) ws (v::rs)=(decide (v.1=s∧v.2.1=f) && mtG js ws rs):=by rw[mtG]
theorem mtG_r0(s f:Int)(d:Ct)(js:List Jb)(ws:List Wr):mtG (⟨false,s,f,d⟩::js) ws []=false:=by rw[mtG]
theorem rwMatched_any(L:Lay)(s:Swp)(w:World)(h:SwR w L s)(hf:Few s):Calls Tryz.prog 65 #[swV L s] w fun e w'=>e=.returned (.bool (mtG s.dk.jobs s.wr s.rd))∧Below w.heap.size w w':=by
 obtain⟨a0,c0,a1,c1,a2,c2,a3,c3,a4,c4,a5,c5,a6,c6,a7,c7⟩:=L;have HS:=Lib.hid h;have f2:=hf.f2;have f3:=hf.f3;have f6:=hf.f6;obtain⟨R,hR⟩:∃ R,mtG s.dk.jobs s.wr s.rd=R:=⟨_,rfl⟩;rw[hR];have HR0:Hid (mtG (s.dk.jobs.drop 0) (s.wr.drop 0) (s.rd.drop 0)=R):=hR;clear h hf hR;unfold swV swC;obtain⟨X,hX⟩:∃ X,w.alloc (.cells (zkx s a0 c0 a1 c1 a2 c2 a3 c3 a4 c4 a5 c5 a6 c6 a7 c7).toArray 35)=X:=⟨_,rfl⟩;have kX:Blk X w.heap.size 35 (zkx s a0 c0 a1 c1 a2 c2 a3 c3 a4 c4 a5 c5 a6 c6 a7 c7).toArray:=by rw[←hX];exact zbk
 have BX:Below w.heap.size w X:=by rw[←hX];exact zbl
 have zX:=kX.lt
 go_enter Tryz.func65,Tryz.ntmps65
 go_wp2_with fail;(try rw[hX]);clear hX
 go_loopw [3,4,5] (fun u v i wr=>∃ k a b:Nat,k≤s.dk.jobs.length∧a≤s.wr.length∧b≤s.rd.length∧i=.int .i64 k∧u=.int .i64 a∧v=.int .i64 b∧Hid (mtG (s.dk.jobs.drop k) (s.wr.drop a) (s.rd.drop b)=R)∧Below X.heap.size X wr) (fun _ _ i _=>s.dk.jobs.length - (intOf i).toNat)
 case atStart=>exact⟨0,0,0,by omega,by omega,by omega,rfl,rfl,rfl,HR0.out,Below.refl _ _⟩
 case round=>
  obtain⟨k,a,b,hk,ha,hb,rfl,rfl,rfl,HR,hbw⟩:=hrel;clear HR0;have b1:=BX.trans (hbw.mono BX.size);have kX1:=kX.below_ hbw zX;have zX1:=kX1.lt;obtain⟨-,-,-,q3,q4,-,-,q7,-⟩:=zc11 kX1
  by_cases hlt:k<s.dk.jobs.length
  ·obtain⟨bj,oj,x,hA,hbl,hx,hc⟩:=(HS.out.r6.ext b1).at_ (k:=k) hlt
   dsimp only at hA;subst hA;obtain⟨jw,js,jf,⟨x0,x1,x2,x3,x4,x5,x6,x7⟩⟩:=x;have e0:wr.cell? ⟨bj,oj+k*11,none⟩=some (.bool jw):=hc 0 _ rfl;have e1:wr.cell? ⟨bj,oj+k*11+1,none⟩=some (.int .i64 js):=hc 1 _ rfl;have e2:wr.cell? ⟨bj,oj+k*11+2,none⟩=some (.int .i64 jf):=hc 2 _ rfl;have e3:wr.cell? ⟨bj,oj+k*11+3,none⟩=some (.int .u64 x0):=hc 3 _ rfl;have e4:wr.cell? ⟨bj,oj+k*11+4,none⟩=some (.int .u64 x1):=hc 4 _ rfl;have e5:wr.cell? ⟨bj,oj+k*11+5,none⟩=some (.int .u64 x2):=hc 5 _ rfl;have e6:wr.cell? ⟨bj,oj+k*11+6,none⟩=some (.int .u64 x3):=hc 6 _ rfl;have e7:wr.cell? ⟨bj,oj+k*11+7,none⟩=some (.int .u64 x4):=hc 7 _ rfl;have e8:wr.cell? ⟨bj,oj+k*11+8,none⟩=some (.int .u64 x5):=hc 8 _ rfl;have e9:wr.cell? ⟨bj,oj+k*11+9,none⟩=some (.int .u64 x6):=hc 9 _ rfl;have e10:wr.cell? ⟨bj,oj+k*11+10,none⟩=some (.int .u64 x7):=hc 10 _ rfl;have i1:(k:Int)<s.dk.jobs.length:=by omega
   have HJ:Hid (s.dk.jobs.drop k=⟨jw,js,jf,⟨x0,x1,x2,x3,x4,x5,x6,x7⟩⟩::s.dk.jobs.drop (k+1)):=by
    show _=_;rw[List.drop_eq_getElem_cons hlt];rw[List.getElem?_eq_getElem hlt] at hx;injection hx with hx
    rw[hx]
   clear hc hx;go_upto_region 6 with fail;obtain⟨V,hV⟩:∃ V,wr.alloc (.cells (zkj jw js jf x0 x1 x2 x3 x4 x5 x6 x7).toArray 115)=V:=⟨_,rfl⟩;have kJ:=za hV;have kX2:Blk V w.heap.size 35 (zkx s a0 c0 a1 c1 a2 c2 a3 c3 a4 c4 a5 c5 (some ⟨bj,oj,none⟩) c6 a7 c7).toArray:=by rw[←hV];exact kX1.alloc_ _
   have hb2:Below X.heap.size X V:=by rw[←hV];exact hbw.alloc hbw.size _
   have B2:=BX.trans (hb2.mono BX.size);have zJ:=kJ.lt;have zX2:=kX2.lt;rw[hV];clear hV q3 q4 q7 e0 e1 e2 e3 e4 e5 e6 e7 e8 e9 e10
   cases jw with
   | true=>
    by_cases hv:a<s.wr.length
    ·obtain⟨bv,ov,v,hA,hbv,hv1,hc⟩:=(HS.out.r2.ext B2).at_ (k:=a) hv
     have v0:V.cell? ⟨bv,ov+a*3,none⟩=some (.int .i64 v.1):=hc 0 _ rfl;have v1:V.cell? ⟨bv,ov+a*3+1,none⟩=some (.int .i64 v.2.1):=hc 1 _ rfl;dsimp only at hA;subst hA;have HV:=Lib.hid (List.drop_eq_getElem_cons hv);have HVE:Hid (s.wr[a]=v):=by show _=_;rw[List.getElem?_eq_getElem hv] at hv1;injection hv1
     have g0:decide ((a:Int)≥s.wr.length)=false:=decide_eq_false (by omega);have g0b:decide (s.wr.length≤a)=false:=decide_eq_false (by omega);have g4:(a:Int)<s.wr.length:=by omega
     clear hc hv1;have y0:=zc kJ 0;have y1:=zc kJ 1;have y2:=zc kJ 2;have q3:=zc kX2 3
     by_cases h1:v.1=js
     ·have g1:(v.1 != js)=false:=by simpa using h1
      by_cases h2:v.2.1=jf
      ·have g2:(v.2.1 != jf)=false:=by simpa using h2
       have HN:Hid (mtG (s.dk.jobs.drop (k+1)) (s.wr.drop (a+1)) (s.rd.drop b)=R):=by show _=_;rw[←HR.out,HJ.out,HV.out,HVE.out,mtG_w];simp[h1,h2]
       clear h1 h2;go_wp2_with fail
       go_quiet (fail)
       go_wp2_with fail
       go_roundw
       case rel=>exact⟨k+1,a+1,b,by omega,by omega,by omega,by go_num,by go_num,by go_num,HN.out,zbl⟩
       case measure=>simp[intOf];omega
      ·have g2:(v.2.1 != jf)=true:=by simpa using h2
       have HE:Hid (R=false):=by show _=_;rw[←HR.out,HJ.out,HV.out,HVE.out,mtG_w];simp[h1,h2]
       clear h1 h2;go_wp2_with fail
       go_quiet (fail)
       go_wp2_with fail;go_ret;exact⟨ret_bool HE.out.symm,BX.trans (Below.mono (show Below X.heap.size X _ from zbl) BX.size)⟩
     ·have g1:(v.1 != js)=true:=by simpa using h1
      have HE:Hid (R=false):=by show _=_;rw[←HR.out,HJ.out,HV.out,HVE.out,mtG_w];simp[h1]
      clear h1;go_wp2_with fail
      go_quiet (fail)
      go_wp2_with fail;go_ret;exact⟨ret_bool HE.out.symm,BX.trans (Below.mono (show Below X.heap.size X _ from zbl) BX.size)⟩
    ·have g0:decide ((a:Int)≥s.wr.length)=true:=decide_eq_true (by omega)
     have g0b:decide (s.wr.length≤a)=true:=decide_eq_true (by omega);have HE:Hid (R=false):=by show _=_;rw[←HR.out,HJ.out,List.drop_of_length_le (show s.wr.length≤a by omega)];rfl
     have y0:=zc kJ 0;have y1:=zc kJ 1;have y2:=zc kJ 2;obtain⟨-,-,-,q3,-⟩:=zc11 kX2;go_wp2_with fail
     go_quiet (fail)
     go_wp2_with fail;go_ret;exact⟨ret_bool HE.out.symm,BX.trans (Below.mono (show Below X.heap.size X _ from zbl) BX.size)⟩
   | false=>
    by_cases hv:b<s.rd.length
    ·obtain⟨bv,ov,v,hA,hbv,hv1,hc⟩:=(HS.out.r3.ext B2).at_ (k:=b) hv
     have v0:V.cell? ⟨bv,ov+b*3,none⟩=some (.int .i64 v.1):=hc 0 _ rfl;have v1:V.cell? ⟨bv,ov+b*3+1,none⟩=some (.int .i64 v.2.1):=hc 1 _ rfl;dsimp only at hA;subst hA;have HV:=Lib.hid (List.drop_eq_getElem_cons hv);have HVE:Hid (s.rd[b]=v):=by show _=_;rw[List.getElem?_eq_getElem hv] at hv1;injection hv1
     have g0:decide ((b:Int)≥s.rd.length)=false:=decide_eq_false (by omega);have g0b:decide (s.rd.length≤b)=false:=decide_eq_false (by omega);have g4:(b:Int)<s.rd.length:=by omega
     clear hc hv1;have y0:=zc kJ 0;have y1:=zc kJ 1;have y2:=zc kJ 2;have q4:=zc kX2 4
     by_cases h1:v.1=js
     ·have g1:(v.1 != js)=false:=by simpa using h1
      by_cases h2:v.2.1=jf
      ·have g2:(v.2.1 != jf)=false:=by simpa using h2
       have HN:Hid (mtG (s.dk.jobs.drop (k+1)) (s.wr.drop a) (s.rd.drop (b+1))=R):=by show _=_;rw[←HR.out,HJ.out,HV.out,HVE.out,mtG_r];simp[h1,h2]
       clear h1 h2;go_wp2_with fail
       go_quiet (fail)
       go_wp2_with fail
       go_roundw
       case rel=>exact⟨k+1,a,b+1,by omega,by omega,by omega,by go_num,by go_num,by go_num,HN.out,zbl⟩
       case measure=>simp[intOf];omega
      ·have g2:(v.2.1 != jf)=true:=by simpa using h2
       have HE:Hid (R=false):=by show _=_;rw[←HR.out,HJ.out,HV.out,HVE.out,mtG_r];simp[h1,h2]
       clear h1 h2;go_wp2_with fail
       go_quiet (fail)
       go_wp2_with fail;go_ret;exact⟨ret_bool HE.out.symm,BX.trans (Below.mono (show Below X.heap.size X _ from zbl) BX.size)⟩
     ·have g1:(v.1 != js)=true:=by simpa using h1
      have HE:Hid (R=false):=by show _=_;rw[←HR.out,HJ.out,HV.out,HVE.out,mtG_r];simp[h1]
      clear h1;go_wp2_with fail
      go_quiet (fail)
      go_wp2_with fail;go_ret;exact⟨ret_bool HE.out.symm,BX.trans (Below.mono (show Below X.heap.size X _ from zbl) BX.size)⟩
    ·have g0:decide ((b:Int)≥s.rd.length)=true:=decide_eq_true (by omega)
     have g0b:decide (s.rd.length≤b)=true:=decide_eq_true (by omega);have HE:Hid (R=false):=by show _=_;rw[←HR.out,HJ.out,List.drop_of_length_le (show s.rd.length≤b by omega)];exact mtG_r0 _ _ _ _ _
     have y0:=zc kJ 0;have y1:=zc kJ 1;have y2:=zc kJ 2;obtain⟨-,-,-,-,q4,-⟩:=zc11 kX2;go_wp2_with fail
     go_quiet (fail)
     go_wp2_with fail;go_ret;exact⟨ret_bool HE.out.symm,BX.trans (Below.mono (show Below X.heap.size X _ from zbl) BX.size)⟩
  ·have HE:Hid (R=(((a:Int) == s.wr.length) && ((b:Int) == s.rd.length))):=by
    show _=_;rw[←HR.out,List.drop_of_length_le (show s.dk.jobs.length≤k by omega)];have e1:(s.wr.drop a).isEmpty=((a:Int) == s.wr.length):=by rw[Bool.eq_iff_iff,List.isEmpty_iff,List.drop_eq_nil_iff,beq_iff_eq];omega
    have e2:(s.rd.drop b).isEmpty=((b:Int) == s.rd.length):=by rw[Bool.eq_iff_iff,List.isEmpty_iff,List.drop_eq_nil_iff,beq_iff_eq];omega
    unfold mtG;rw[e1,e2]
   have i1:¬ (k:Int)<s.dk.jobs.length:=by omega
   cases g1:((a:Int) == s.wr.length) with
   | true=>
    rw[g1] at HE;go_wp2_with fail;go_ret;exact⟨ret_bool (by rw[HE.out];rfl),b1⟩
   | false=>
    rw[g1] at HE;go_wp2_with fail;go_ret;exact⟨ret_bool (by rw[HE.out];rfl),b1⟩
def dscB(s:Swp):Bool:=decide (s.desc.length=s.dk.jobs.length∧(tknP s.po).length=s.desc.length∧∀ d ∈ tknP s.po,d ∈ s.desc)
theorem rwDescribed_any(L:Lay)(s:Swp)(w:World)(h:SwR w L s)(hf:Few s)(hp:OkP s.po):Calls Tryz.prog 66 #[swV L s] w fun e w'=>e=.returned (.bool (dscB s))∧Below w.heap.size w w':=by
 obtain⟨a0,c0,a1,c1,a2,c2,a3,c3,a4,c4,a5,c5,a6,c6,a7,c7⟩:=L;have HS:=Lib.hid h;have f4:=hf.f4;have HT:=Lib.hid (fun W h=>rpTaken_any a7 c7 s.po W hp h);obtain⟨R,hR⟩:∃ R,dscB s=R:=⟨_,rfl⟩;rw[hR];have HR:=Lib.hid hR;obtain⟨T,hTe⟩:∃ T,tknP s.po=T:=⟨_,rfl⟩;have HTE:=Lib.hid hTe;clear h hf hR hTe;unfold swV swC;obtain⟨X,hX⟩:∃ X,w.alloc (.cells (zkx s a0 c0 a1 c1 a2 c2 a3 c3 a4 c4 a5 c5 a6 c6 a7 c7).toArray 35)=X:=⟨_,rfl⟩;have kX:Blk X w.heap.size 35 (zkx s a0 c0 a1 c1 a2 c2 a3 c3 a4 c4 a5 c5 a6 c6 a7 c7).toArray:=by rw[←hX];exact zbk
 have BX:Below w.heap.size w X:=by rw[←hX];exact zbl
 have zX:=kX.lt;obtain⟨-,-,-,-,-,-,-,-,-,q9,q10⟩:=zc11 kX
 go_enter Tryz.func66,Tryz.ntmps66
 go_wp2_with fail;(try rw[hX]);clear hX;refine (HT.out X (HS.out.r7.ext BX)).mono ?_;rintro e1 w1 ⟨A,c,rfl,hCan,hb1⟩;rw[HTE.out];have HSR:Hid (SR intE w1 A T):=by have:=hCan.sr;rwa [HTE.out] at this
 have B1:=BX.trans (hb1.mono BX.size);replace kX:=kX.below_ hb1 zX;have zX1:=kX.lt;clear q9 q10 hb1 hCan zX;obtain⟨-,-,-,-,-,q5,-,q7,-⟩:=zc11 kX
 cases g1:((s.desc.length:Int) != s.dk.jobs.length) with
 | true=>
  have HE:Hid (R=false):=by show _=_;rw[←HR.out];refine decide_eq_false fun h => ?_;have:=h.1;simp at g1;omega
  go_wp2_with fail;go_ret;exact⟨ret_bool HE.out.symm,B1⟩
 | false=>
  cases g2:((T.length:Int) != s.desc.length) with
  | true=>
   have HE:Hid (R=false):=by show _=_;rw[←HR.out];refine decide_eq_false fun h => ?_;have:=h.2.1;rw[HTE.out] at this;simp at g2;omega
   go_wp2_with fail;go_ret;exact⟨ret_bool HE.out.symm,B1⟩
  | false=>
   have HG:Hid (s.desc.length=s.dk.jobs.length∧T.length=s.desc.length):=by simp at g1 g2;exact⟨by omega,by omega⟩
   have hT:T.length≤1000:=by have:=HG.out.2;omega
   go_wp2_with fail;clear g1 g2 q5 q7
   go_loopw [5] (fun i wr=>∃ k:Nat,k≤T.length∧i=.int .i64 k∧Hid (∀ x ∈ T.take k,x ∈ s.desc)∧Below w1.heap.size w1 wr) (fun i _=>T.length - (intOf i).toNat)
   case atStart=>exact⟨0,by omega,rfl,fun x hx=>by simp at hx,Below.refl _ _⟩
   case round=>
    obtain⟨k,hk,rfl,HK,hbw⟩:=hrel;have b1:=B1.trans (hbw.mono B1.size);have kX1:=kX.below_ hbw zX1;have zX2:=kX1.lt;obtain⟨-,-,-,-,-,q5,-⟩:=zc11 kX1
    by_cases hlt:k<T.length
    ·have i1:(k:Int)<T.length:=by omega
     obtain⟨bt,ot,x,rfl,hbl,hx,hc⟩:=(HSR.out.ext hbw).at_ hlt;have e0:wr.cell? ⟨bt,ot+k,none⟩=some (.int .i64 x):=by simpa [show intE.sz=1 from rfl] using hc 0 (.int .i64 x) rfl
     have HX:=Lib.hid hx;obtain⟨wo,rfl⟩:∃ wo,wo=wr:=⟨_,rfl⟩;clear hc hx;go_wp2_with fail;clear q5
     go_loopw [6,7] (fun f i wr=>∃ (q:Nat) (fb:Bool),q≤s.desc.length∧i=.int .i64 q∧f=.bool fb∧Hid (fb=decide (x ∈ s.desc.take q))∧Below wo.heap.size wo wr) (fun _ i _=>s.desc.length - (intOf i).toNat)
     case atStart=>exact⟨0,false,by omega,rfl,rfl,by show _=_;simp,Below.refl _ _⟩
     case round=>
      obtain⟨q,fb,hq,rfl,rfl,HF,hbq⟩:=hrel;have b2:=b1.trans (hbq.mono b1.size);have kX2:=kX1.below_ hbq zX2;have zX3:=kX2.lt;have e1:=cell_keep hbq e0 hbl;have hbl1:bt<wr.heap.size:=Nat.lt_of_lt_of_le hbl hbq.size;have hbwq:=zbt hbw hbq;obtain⟨-,-,-,-,-,q5,-⟩:=zc11 kX2
      by_cases hql:q<s.desc.length
      ·have i2:(q:Int)<s.desc.length:=by omega
       obtain⟨bd,od,y,hA,hbd,hy,hcy⟩:=(HS.out.r4.ext b2).at_ hql;dsimp only at hA;subst hA;have e2:wr.cell? ⟨bd,od+q,none⟩=some (.int .i64 y):=by simpa [show intE.sz=1 from rfl] using hcy 0 (.int .i64 y) rfl
       have HT1:Hid (decide (x ∈ s.desc.take (q+1))=(fb || (y == x))):=by
        show _=_;rw[HF.out,List.take_add_one,hy]
        by_cases e:y=x
        ·simp[e]
        ·have e':¬ x=y:=fun h=>e h.symm
         simp[e,e']
       clear hcy hy
       cases fb with
       | true=>
        go_wp2_with fail
        go_quiet (fail)
        go_wp2_with fail
        go_roundw
        case rel=>exact⟨q+1,true,by omega,by go_num,rfl,by show _=_;rw[HT1.out];rfl,zbl⟩
        case measure=>simp[intOf];omega
       | false=>
        go_wp2_with fail
        go_quiet (fail)
        go_wp2_with fail
        go_roundw
        case rel=>exact⟨q+1,(y == x),by omega,by go_num,rfl,by show _=_;rw[HT1.out];rfl,zbl⟩
        case measure=>simp[intOf];omega
      ·obtain rfl:q=s.desc.length:=by omega
       have HF2:Hid (fb=decide (x ∈ s.desc)):=by have:=HF.out;rwa [List.take_length] at this
       cases fb with
       | true=>
        have HK2:Hid (∀ z ∈ T.take (k+1),z ∈ s.desc):=by
         show ∀ z ∈ _,_
         rw[List.take_add_one,HX.out];intro z hz
         rcases List.mem_append.1 hz with hz | hz
         ·exact HK.out z hz
         ·simp at hz;rw[hz];exact of_decide_eq_true HF2.out.symm
        go_wp2_with fail
        go_roundw
        case rel=>exact⟨k+1,by omega,by go_num,HK2.out,hbwq⟩
        case measure=>simp[intOf];omega
       | false=>
        have HE:Hid (R=false):=by
         show _=_;rw[←HR.out]
         refine decide_eq_false fun h => ?_
         have h2:=h.2.2 x (by rw[HTE.out];exact List.mem_of_getElem? HX.out);have:=HF2.out;rw[decide_eq_true h2] at this
         cases this
        go_wp2_with fail;go_ret;exact⟨ret_bool HE.out.symm,b2⟩
    ·have HE:Hid (R=true):=by
      show _=_;rw[←HR.out];refine decide_eq_true ⟨HG.out.1,by rw[HTE.out];exact HG.out.2,?_⟩;rw[HTE.out];have:=HK.out
      rwa [List.take_of_length_le (by omega)] at this
     go_wp2_with fail;go_ret;exact⟨ret_bool HE.out.symm,b1⟩
end Go.Proofs.YthijbipidbjpfaaGreatDoor
