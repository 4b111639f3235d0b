import Derived.Test.YthijbipidbjpfaaGreatDoorZR07
import Derived.BigQuiet
import Derived.Test.YthijbipidbjpfaaGreatDoorZR00
import Derived.Test.YthijbipidbjpfaaGreatDoorZR04
import Derived.Test.YthijbipidbjpfaaGreatDoorZR23
import Derived.Test.YthijbipidbjpfaaGreatDoorZR14
import Derived.Test.YthijbipidbjpfaaGreatDoorZR06
import Derived.Test.YthijbipidbjpfaaGreatDoorZR17
import Derived.Test.YthijbipidbjpfaaGreatDoorZR18
import Derived.Test.YthijbipidbjpfaaGreatDoorZR03
set_option linter.unusedSimpArgs false
set_option linter.unusedVariables false
set_option maxRecDepth 100000
set_option maxHeartbeats 8000000
namespace Go.Proofs.YthijbipidbjpfaaGreatDoor
open Go.RowKit Go.Maps
theorem rpSized_any (n:Int) (w:World) {b:Bool} (h:decide (1 ≤ n∧n ≤ 32) = b):Calls Tryz.prog 136 #[.int .i64 n] w fun e w' => e = .returned (.bool b)∧w = w':=by
 have HE:Hid (b = (decide (n ≥ 1) && decide (n ≤ 32))):=by show _ = _;rw [← h];simp
 clear h
 cases d1:decide (n ≥ 1) with
 | true =>
  go_enter Tryz.func136,Tryz.ntmps136
  go_wp2_with fail;go_ret;exact ⟨by rw [HE.out,d1];simp,rfl⟩
 | false =>
  go_enter Tryz.func136,Tryz.ntmps136
  go_wp2_with fail;go_ret;exact ⟨by rw [HE.out,d1];simp,rfl⟩
theorem rpCheck_any (A:Option Addr) (c:Nat) (p:Pol) (w:World) (ha:SR intE w A p.free) (la:p.free.length ≤ 1000) {z:Int} {n:Nat} (h:chkP p = (z,n)) :
  Calls Tryz.prog 133 #[poV A c p] w fun e w' => e = .returned (.tuple #[.int .i64 z,.int .i64 n])∧Below w.heap.size w w':=by
 obtain ⟨size,l⟩:=p
 dsimp only at *
 have HA:=Lib.hid ha.sl
 clear ha
 unfold poV
 dsimp only
 unfold chkP at h
 dsimp only at h
 by_cases h1:size < 1 ∨ 32 < size
 ·rw [if_pos h1] at h
  cases h
  have g1:=fun W => rpSized_any size W (b:=false) (by simp;omega)
  go_enter Tryz.func133,Tryz.ntmps133
  go_wp2_with (go_at_call 136;refine (g1 _).mono ?_;rintro e w' ⟨rfl,rfl⟩)
  refine bodyPost_ret (by simp [results,Tryz.results133,go_sem] <;> rfl) rfl ?_
  exact ⟨rfl,zbl⟩
 ·have g1:=fun W => rpSized_any size W (b:=true) (by simp;omega)
  rw [if_neg h1] at h
  have HH:Hid (chkPG size (l.take 0) (l.drop 0) = (z,n)):=by show _ = _;simpa using h
  clear h h1
  go_enter Tryz.func133,Tryz.ntmps133
  go_wp2_with (go_at_call 136;refine (g1 _).mono ?_;rintro e w' ⟨rfl,rfl⟩)
  clear g1
  obtain ⟨V,hV⟩:∃ V,w.alloc (.cells #[.int .i64 size,.slice A l.length c] 33) = V:=⟨_,rfl⟩
  have BV:Below w.heap.size w V:=by rw [← hV];exact zbl
  have kV:Blk V w.heap.size 33 #[.int .i64 size,.slice A l.length c]:=by rw [← hV];exact zbk
  rw [hV]
  clear hV
  have hsz:=BV.size
  have hlV:=kV.lt
  go_loopw [4] (fun i wr => ∃ k:Nat,k ≤ l.length∧i = .int .i64 k∧Hid (chkPG size (l.take k) (l.drop k) = (z,n))∧Below V.heap.size V wr) (fun i _ => l.length - (intOf i).toNat)
  case atStart => exact ⟨0,by omega,rfl,HH,Below.refl _ _⟩
  case round =>
   obtain ⟨k,hk,rfl,HR,hbw⟩:=hrel
   clear HH
   have p0:wr.cell? ⟨w.heap.size,0,none⟩ = some (.int .i64 size):=by simpa using (kV.below_ hbw hlV).cell_ 0
   have p1:wr.cell? ⟨w.heap.size,1,none⟩ = some (.slice A l.length c):=by simpa using (kV.below_ hbw hlV).cell_ 1
   have hlw:w.heap.size < wr.heap.size:=Nat.lt_of_lt_of_le hlV hbw.size
   by_cases hlt:k < l.length
   ·have HS:Hid (Sl wr (.int .i64) A l):=(HA.out.ext BV).ext hbw
    obtain ⟨b,off,x,rfl,hbl,hx,q0⟩:=HS.out.at_ hlt
    have i1:(k:Int) < l.length:=by omega
    have hc:=HR.out
    rw [chkPG_at hx] at hc
    by_cases e1:x < 0
    ·rw [if_pos (.inl e1)] at hc
     cases hc
     clear HR
     have d1:decide (x < 0) = true:=by simpa using e1
     clear e1
     go_wp2
     go_quiet (fail)
     go_wp2
     refine bodyPost_ret (by simp [results,Tryz.results133,go_sem] <;> rfl) rfl ?_
     exact ⟨rfl,zbl⟩
    ·by_cases e2:size ≤ x
     ·rw [if_pos (.inr e2)] at hc
      cases hc
      clear HR
      have d1:decide (x < 0) = false:=by simpa using e1
      have d2:decide (x ≥ size) = true:=by simpa using e2
      clear e1 e2
      go_wp2
      go_quiet (fail)
      go_wp2
      refine bodyPost_ret (by simp [results,Tryz.results133,go_sem] <;> rfl) rfl ?_
      exact ⟨rfl,zbl⟩
     ·rw [if_neg (by omega)] at hc
      have HC:=Lib.hid hc
      clear hc HR
      rcases Nat.eq_zero_or_pos k with hk0 | hk0
      ·have HD:Hid (chkPG size (l.take (k + 1)) (l.drop (k + 1)) = (z,n)):=by
        show _ = _
        have:=HC.out
        rw [hk0] at this ⊢
        simpa using this
       have d1:decide (x < 0) = false:=by simpa using e1
       have d2:decide (x ≥ size) = false:=by simpa using e2
       have d3:decide (0 < k) = false:=decide_eq_false (by omega)
       have i5:¬ (0:Int) < (k:Int):=by omega
       clear hk0 HC e1 e2
       go_wp2
       go_quiet (fail)
       go_wp2
       go_quiet (fail)
       go_wp2
       go_roundw
       case rel => exact ⟨k + 1,by omega,by go_num,HD.out,zbl⟩
       case measure => simp [intOf];omega
      ·obtain ⟨m,rfl⟩:∃ m,k = m + 1:=⟨k - 1,by omega⟩
       obtain ⟨y,hy⟩:∃ y,l[m]? = some y:=⟨_,List.getElem?_eq_getElem (by omega)⟩
       have q1:wr.cell? ⟨b,off + m,none⟩ = some (.int .i64 y):=by
        obtain ⟨b',off',y',e,_,hy',q⟩:=HS.out.at_ (k:=m) (by omega)
        injection e with e
        injection e with e3 e4
        subst e3 e4
        rw [hy] at hy'
        cases hy'
        exact q
       have hc:=HC.out
       rw [take_lastP hy] at hc
       simp only [Option.any_some,decide_eq_true_eq] at hc
       have i2:(0:Int) < (m:Int) + 1:=by omega
       have i3:(m:Int) + 1 - 1 = m:=by omega
       have i4:(m:Int) < l.length:=by omega
       have d1:decide (x < 0) = false:=by simpa using e1
       have d2:decide (x ≥ size) = false:=by simpa using e2
       have d3:decide ((m:Int) + 1 > 0) = true:=decide_eq_true (by omega)
       clear e1 e2
       by_cases e3:x ≤ y
       ·rw [if_pos e3] at hc
        cases hc
        have d4:decide (x ≤ y) = true:=by simpa using e3
        clear e3
        go_wp2
        go_quiet (fail)
        go_wp2
        go_quiet (fail)
        go_wp2
        refine bodyPost_ret (by simp [results,Tryz.results133,go_sem] <;> rfl) rfl ?_
        exact ⟨rfl,zbl⟩
       ·rw [if_neg e3] at hc
        have HD:=Lib.hid hc
        have d4:decide (x ≤ y) = false:=by simpa using e3
        clear hc HC e3
        go_wp2
        go_quiet (fail)
        go_wp2
        go_quiet (fail)
        go_wp2
        go_roundw
        case rel => exact ⟨m + 1 + 1,by omega,by go_num,HD.out,zbl⟩
        case measure => simp [intOf];omega
   ·have hd:l.drop k = []:=List.drop_of_length_le (by omega)
    have hc:=HR.out
    rw [hd,chkPG] at hc
    cases hc
    clear HR
    go_wp2
    refine bodyPost_ret (by simp [results,Tryz.results133,go_sem] <;> rfl) rfl ?_
    exact ⟨rfl,zbl⟩
theorem rpFree_any (A:Option Addr) (c:Nat) (p:Pol) (d:Int) (w:World) (ha:SR intE w A p.free) (la:p.free.length ≤ 1000) :
  Calls Tryz.prog 144 #[poV A c p,.int .i64 d] w fun e w' => e = .returned (.bool (decide (d ∈ p.free)))∧Below w.heap.size w w':=by
 obtain ⟨size,l⟩:=p
 dsimp only at *
 have HA:=Lib.hid ha.sl
 obtain ⟨R,hR⟩:∃ b,decide (d ∈ l) = b:=⟨_,rfl⟩
 rw [hR]
 have HR:=Lib.hid hR
 clear ha hR
 unfold poV
 dsimp only
 go_enter Tryz.func144,Tryz.ntmps144
 go_wp2
 obtain ⟨V,hV⟩:∃ V,w.alloc (.cells #[.int .i64 size,.slice A l.length c] 33) = V:=⟨_,rfl⟩
 have BV:Below w.heap.size w V:=by rw [← hV];exact zbl
 have kV:Blk V w.heap.size 33 #[.int .i64 size,.slice A l.length c]:=by rw [← hV];exact zbk
 rw [hV]
 clear hV
 have hsz:=BV.size
 have hlV:=kV.lt
 go_loopw [5] (fun i wr => ∃ k:Nat,k ≤ l.length∧i = .int .i64 k∧Hid (∀ x ∈ l.take k,x ≠ d)∧Below V.heap.size V wr) (fun i _ => l.length - (intOf i).toNat)
 case atStart => exact ⟨0,by omega,rfl,fun x hx => by simp at hx,Below.refl _ _⟩
 case round =>
  obtain ⟨k,hk,rfl,HN,hbw⟩:=hrel
  have p1:wr.cell? ⟨w.heap.size,1,none⟩ = some (.slice A l.length c):=by simpa using (kV.below_ hbw hlV).cell_ 1
  have hlw:w.heap.size < wr.heap.size:=Nat.lt_of_lt_of_le hlV hbw.size
  by_cases hlt:k < l.length
  ·obtain ⟨b,off,x,rfl,hbl,hx,q0⟩:=((HA.out.ext BV).ext hbw).at_ hlt
   have i1:(k:Int) < l.length:=by omega
   have HX:=Lib.hid hx
   clear hx
   by_cases e:x = d
   ·have HE:Hid (R = true):=by show _ = _;rw [← HR.out,← e];exact decide_eq_true (List.mem_of_getElem? HX.out)
    have eb:(x == d) = true:=by simpa using e
    clear e
    go_wp2
    go_ret
    exact ⟨ret_bool HE.out.symm,zbl⟩
   ·have eb:(x == d) = false:=by simpa using e
    have HN2:Hid (∀ y ∈ l.take (k + 1),y ≠ d):=by
     show ∀ y ∈ _,_
     rw [List.take_add_one,HX.out]
     intro y hy
     rcases List.mem_append.1 hy with hy | hy
     ·exact HN.out y hy
     ·simp at hy;rw [hy];exact e
    clear e
    go_wp2
    go_roundw
    case rel => exact ⟨k + 1,by omega,by go_num,HN2.out,zbl⟩
    case measure => simp [intOf];omega
  ·have HE:Hid (R = false):=by
    show _ = _
    rw [← HR.out]
    refine decide_eq_false fun h => ?_
    have:=HN.out
    rw [List.take_of_length_le (by omega)] at this
    exact this d h rfl
   go_wp2
   go_ret
   exact ⟨ret_bool HE.out.symm,zbl⟩
theorem tknP_nat (l:List Int) (n:Nat):tknP ⟨(n:Int),l⟩ = tkF l n:=by rw [tknP_eq];simp [tkF]
theorem rpTaken_any (A:Option Addr) (c:Nat) (p:Pol) (w:World) (hok:OkP p) (ha:SR intE w A p.free) :
  Calls Tryz.prog 134 #[poV A c p] w (TkPost (tknP p) w):=by
 have hzz:=chkP_zero hok
 have hlen:=hok.len
 obtain ⟨size,l⟩:=p
 obtain ⟨ok1,ok2,ok3⟩:=hok
 dsimp only at *
 unfold poV
 dsimp only
 obtain ⟨n,rfl⟩:∃ n:Nat,size = n:=⟨size.toNat,by omega⟩
 have HT:Hid (tknP ⟨(n:Int),l⟩ = tkF l n):=tknP_nat l n
 have HA:=Lib.hid ha
 have HZ:=Lib.hid hzz
 have n2:n ≤ 32:=by omega
 clear ha hzz ok2 ok3
 obtain ⟨X,hX⟩:∃ X,w.alloc (.cells #[.int .i64 n,.slice A l.length c] 33) = X:=⟨_,rfl⟩
 have BX:Below w.heap.size w X:=by rw [← hX];exact zbl
 have kX:Blk X w.heap.size 33 #[.int .i64 n,.slice A l.length c]:=by rw [← hX];exact zbk
 obtain ⟨q0,q1⟩:=zc2 kX
 have zX:=kX.lt
 go_enter Tryz.func134,Tryz.ntmps134
 go_wp2_with fail
 (try rw [hX])
 clear hX
 refine (rpCheck_any A c ⟨(n:Int),l⟩ X (HA.out.ext BX) (by dsimp only;omega) HZ.out).mono ?_
 rintro e1 w1 ⟨rfl,hb1⟩
 have kP:Blk w1 w.heap.size 33 #[.int .i64 n,.slice A l.length c]:=kX.below_ hb1 zX
 have B1:=zbt BX hb1
 have zP:=kP.lt
 clear q0 q1 hb1
 go_wp2_with fail
 go_loopw [6,7] (fun v f w5 => ∃ (k:Nat) (A':Option Addr) (c' L:Nat) (zs:List Int),k ≤ n∧f = .int .i64 k∧v = .slice A' L c'∧Hid (zs = tkF l k)∧Hid (L = zs.length)∧Hid (CanR intE w5 w1.heap.size A' c' zs)∧Below w1.heap.size w1 w5) (fun _ f _ => n - (intOf f).toNat)
 case atStart => exact ⟨0,none,0,0,[],by omega,rfl,rfl,rfl,rfl,.inl ⟨rfl,SR.nil⟩,Below.refl _ _⟩
 case round =>
  obtain ⟨k,A',c',L,zs,hk,rfl,rfl,HZS,HLL,HCAN,hb5⟩:=hrel
  have kQ5:=kP.below_ hb5 zP
  have zQ5:=kQ5.lt
  have b5w:=zbt B1 hb5
  have hsz:=hb5.size
  obtain ⟨q0,q1⟩:=zc2 kQ5
  by_cases hlt:k < n
  ·have i1:(k:Int) < n:=by omega
   have hf:=rpFree_any A c ⟨(n:Int),l⟩ k wr (HA.out.ext b5w) (by dsimp only;omega)
   obtain ⟨fr,hfr⟩:∃ b,decide ((k:Int) ∈ l) = b:=⟨_,rfl⟩
   have HS:Hid (tkF l (k + 1) = zs ++ (if fr = true then [] else [(k:Int)])):=by
    show _ = _
    rw [HZS.out,← hfr]
    unfold tkF
    rw [rngI_succ,List.filter_append]
    by_cases e:(k:Int) ∈ l <;> simp [e]
   dsimp only at hf
   rw [hfr] at hf
   have HF:=Lib.hid hf
   clear hf hfr
   have HZL:Hid (zs.length ≤ 1000):=by show _ ≤ _;have:=tkF_len l k;rw [← HZS.out] at this;omega
   go_wp2_with fail
   refine HF.out.mono ?_
   rintro e6 w6 ⟨rfl,hb6⟩
   have hsz6:=hb6.size
   cases fr with
   | true =>
    go_wp2_with fail
    go_roundw
    case rel => exact ⟨k + 1,A',c',L,zs,by omega,by go_num,rfl,by show _ = _;rw [HS.out];simp,HLL.out,HCAN.out.ext hb6,hb5.trans (hb6.mono (by omega))⟩
    case measure => simp [intOf];omega
   | false =>
    have H1:Hid ((zs ++ [(k:Int)]).length = L + 1):=by show _ = _;simp [HLL.out]
    go_wp2_with (at_builtin;refine wpList_appR intE rfl (.tmp 26) (.tmp 28) _ rfl rfl _ w1.heap.size (by simp;omega) A' c' L zs HLL.out ((HCAN.out.ext hb6).ext ?_) (some ⟨w6.heap.size,0,none⟩) 1 1 [(k:Int)] rfl (SR.of_blk (E:=intE) (l:=[(k:Int)]) (t:=3) (Blk.new_ (by simp) rfl)) (by have:=HZL.out;simp;omega) rfl rfl ?_;(exact (Below.refl _ w6).alloc (Nat.le_refl _) _);rw [H1.out];intro A5 c5 w7 hO7 hb7 hm7)
    have H7:CanR intE w7 w1.heap.size A5 c5 (zs ++ [(k:Int)]):=hO7
    have hb67:Below w1.heap.size w1 w7:=(hb5.trans (hb6.mono (by omega))).trans (Below.trans ((Below.refl _ w6).alloc (by omega) _) hb7)
    go_roundw
    case rel => exact ⟨k + 1,A5,c5,L + 1,zs ++ [(k:Int)],by omega,by go_num,rfl,by show _ = _;rw [HS.out];simp,H1.out.symm,H7,hb67⟩
    case measure => simp [intOf];omega
  ·obtain rfl:k = n:=by omega
   have HE:Hid (tkF l k = zs):=by show _ = _;rw [HZS.out]
   go_wp2_with fail
   refine bodyPost_ret (by simp [results,Tryz.results134,go_sem] <;> rfl) rfl ?_
   unfold TkPost
   rw [HT.out,HE.out]
   exact ⟨A',c',by rw [HLL.out],CanR.base_ HCAN.out (by have:=B1.size;omega),b5w⟩
theorem rpTake_any (A:Option Addr) (c:Nat) (p:Pol) (w:World) (ha:CR intE w A c p.free) (hok:OkP p) {d:Int} {l:List Int} (hfr:p.free = d :: l) :
  Calls Tryz.prog 119 #[poV A c p] w (TakePost (⟨p.size,l⟩,d,0) w):=by
 have hzz:=chkP_zero hok
 have hlen:=hok.len
 obtain ⟨size,fr⟩:=p
 dsimp only at *
 subst hfr
 have hsf:=ha.suf 1 (by simp)
 have hcl:l.length + 1 ≤ c:=ha.2
 obtain ⟨A1,hA1⟩:∃ A1,(if c = 1 then A else A.map (fun a => a.add (1 * 1))) = A1:=⟨_,rfl⟩
 have hs:∀ W,(Instr.slice 22 (.slice A (l.length + 1) c) (some (.int .i64 1)) none none).run Tryz.prog W = .ok (.slice A1 l.length (c - 1)) W:=fun W => by
  rw [← hA1]
  exact run_sufR intE A c (l.length + 1) 1 (by omega) (by omega) W
 have hs1:SR intE w A1 l:=by rw [← hA1];exact hsf.1
 obtain ⟨b,off,x,rfl,hbl,hx,hc⟩:=ha.1.at_ (k:=0) (by simp)
 obtain rfl:d = x:=by simpa using hx
 have hq:w.cell? ⟨b,off,none⟩ = some (.int .i64 d):=by simpa using hc 0 _ rfl
 have hll:l.length ≤ 31:=by simp at hlen;omega
 have HC:=Lib.hid (rpCheck_any (some ⟨b,off,none⟩) c ⟨size,d :: l⟩)
 have HA:=Lib.hid ha
 have HZ:=Lib.hid hzz
 clear hx hc hsf hA1 hok hzz ha hlen
 show Calls _ _ #[.agg #[.int .i64 size,.slice (some ⟨b,off,none⟩) (l.length + 1) c]] _ _
 obtain ⟨X,hX⟩:∃ X,(w.alloc (.cells #[.int .i64 size,.slice (some ⟨b,off,none⟩) (l.length + 1) c] 33)).alloc (.cells #[.int .i64 0,.slice none 0 0] 33) = X:=⟨_,rfl⟩
 have kX:=za1 hX
 have kR:=za2 hX
 have BX:Below w.heap.size w X:=by rw [← hX];exact zbl
 have zX:=kX.lt
 obtain ⟨q0,q1⟩:=zc2 kX
 go_enter Tryz.func119,Tryz.ntmps119
 go_wp2_with fail
 (try rw [hX])
 clear hX
 refine (HC.out X (HA.out.1.ext BX) (by simp;omega) HZ.out).mono ?_
 rintro e1 w1 ⟨rfl,hb1⟩
 have B1:=zbt BX hb1
 have kX1:=kX.below_ hb1 zX
 have kR1:=kR.below_ hb1 kR.lt
 have zq:=kX1.lt
 have zr:=kR1.lt
 have HS:Hid (SR intE w1 A1 l):=hs1.ext B1
 have q2:=cell_keep B1 hq hbl
 have zb:b < w1.heap.size:=Nat.lt_of_lt_of_le hbl B1.size
 have hn0:((l.length:Int) + 1 == 0) = false:=by simp;omega
 clear q0 q1 hb1 hs1 hq HC
 obtain ⟨q0,q1⟩:=zc2 kX1
 go_upto_region 6 with fail
 have i1:(0:Int) < (l.length:Int) + 1:=by omega
 refine wp_region_held_drew (S:=(fun (wx:World) => wx.cell? ⟨w.heap.size,0,none⟩ = some (.int .i64 size)∧wx.cell? ⟨w.heap.size,1,none⟩ = some (.slice (some ⟨b,off,none⟩) (l.length + 1) c)∧wx.cell? ⟨b,off,none⟩ = some (.int .i64 d))) (by kernel_rfl) ?_ (fun hHeld => ?_)
 ·exact ⟨q0,q1,q2⟩
 refine zht 0 ?_
 refine zht 1 ?_
 refine zht 3 ?_
 refine zht 4 ?_
 refine zhV 5 (.slice A1 l.length (c - 1)) (fun w hSw => ?_) ?_
 ·(try dsimp only at hSw)
  go_simp
  first | done | with_reducible rfl
 refine zht 8 ?_
 refine zht 9 ?_
 refine zht 10 ?_
 refine zht 11 ?_
 refine zhr 2 (fun K hK => ?_)
 go_simp
 obtain ⟨w4,hw4⟩:∃ w4,w4 = (w1.alloc (.cells #[] 3)).drew:=⟨_,rfl⟩
 have B4:Below w1.heap.size w1 w4:=by rw [hw4];exact ((Below.refl _ _).alloc (Nat.le_refl _) _).drew
 rw [← hw4]
 clear hw4
 refine hK.out _ _ (by first | exact ⟨cell_keep B5 q0 zq,cell_keep B5 q1 zq,cell_keep B5 q2 zb⟩ | exact ⟨cell_keep B4 q0 zq,cell_keep B4 q1 zq,cell_keep B4 q2 zb⟩ | exact ⟨by simpa using ((kX5.far_ (by simp) _).far_ (by simp) _).cell_ 0,by simpa using ((kX5.far_ (by simp) _).far_ (by simp) _).cell_ 1,by rw [World.cell?_setCell_other _ _ _ _ (by intro e;injection e with e1;omega),World.cell?_setCell_other _ _ _ _ (by intro e;injection e with e1;omega)];exact cell_keep B5 q2 zb⟩) fun hHeld => ?_
 clear hK K
 (try simp only [Act.put,zy0,zy1,zy2])
 refine zhr 6 (fun K hK => ?_)
 refine step_appF intE rfl (.tmp 23) (.tmp 26) _ rfl rfl w4 _ A1 (c - 1) l.length l rfl (HS.out.ext B4) (by omega) rfl rfl ?_
 intro A2 c2 w5 hO5 hb5
 have B5:=zbt B4 hb5
 have kX5:=kX1.below_ B5 zq
 have kR5:=kR1.below_ B5 zr
 have zr5:=kR5.lt
 obtain ⟨y0,y1⟩:=zc2 kR5
 obtain ⟨yf0,yf1,-⟩:=zf kR5
 refine hK.out _ _ (by first | exact ⟨cell_keep B5 q0 zq,cell_keep B5 q1 zq,cell_keep B5 q2 zb⟩ | exact ⟨cell_keep B4 q0 zq,cell_keep B4 q1 zq,cell_keep B4 q2 zb⟩ | exact ⟨by simpa using ((kX5.far_ (by simp) _).far_ (by simp) _).cell_ 0,by simpa using ((kX5.far_ (by simp) _).far_ (by simp) _).cell_ 1,by rw [World.cell?_setCell_other _ _ _ _ (by intro e;injection e with e1;omega),World.cell?_setCell_other _ _ _ _ (by intro e;injection e with e1;omega)];exact cell_keep B5 q2 zb⟩) fun hHeld => ?_
 clear hK K
 (try simp only [Act.put,zy0,zy1,zy2])
 refine zht 7 ?_
 refine zhr 12 (fun K hK => ?_)
 go_simp
 refine hK.out _ _ (by first | exact ⟨cell_keep B5 q0 zq,cell_keep B5 q1 zq,cell_keep B5 q2 zb⟩ | exact ⟨cell_keep B4 q0 zq,cell_keep B4 q1 zq,cell_keep B4 q2 zb⟩ | exact ⟨by simpa using ((kX5.far_ (by simp) _).far_ (by simp) _).cell_ 0,by simpa using ((kX5.far_ (by simp) _).far_ (by simp) _).cell_ 1,by rw [World.cell?_setCell_other _ _ _ _ (by intro e;injection e with e1;omega),World.cell?_setCell_other _ _ _ _ (by intro e;injection e with e1;omega)];exact cell_keep B5 q2 zb⟩) fun hHeld => ?_
 clear hK K
 (try simp only [Act.put,zy0,zy1,zy2])
 refine zht 13 ?_
 refine zht 14 ?_
 refine wpAnyH_done (by kernel_rfl) ?_ _
 go_wp2_with fail
 have B15:=zbt B1 B5
 have z45:=B4.size
 obtain ⟨W,hW⟩:∃ W,setN w5 (w.heap.size + 1) 0 [.int .i64 size,.slice A2 l.length c2] = W:=⟨_,rfl⟩
 have hWn:World.setCell (World.setCell w5 ⟨w.heap.size + 1,0,none⟩ (.int .i64 size)) ⟨w.heap.size + 1,1,none⟩ (.slice A2 l.length c2) = W:=hW
 have kW:=zsw hW kR5
 have bW:=zbw hW B15 (by omega)
 have oW:OwnE intE W (w.heap.size + 2) A2 c2 l:=by rw [← hW];exact (hO5.base_ (by omega)).farN (by exact Nat.lt_succ_self _) _
 rw [hWn]
 clear hWn hW y0 y1 yf0 yf1
 refine bodyPost_ret (by simp [results,Tryz.results119,go_sem,zc2 kW] <;> rfl) rfl ?_
 exact ⟨A2,c2,rfl,oW.base_ (by omega),bW⟩
theorem okW_iff (x:Wr):okW x = true ↔ (0 ≤ x.1∧x.1 < 256)∧(0 ≤ x.2.1∧x.2.1 < 256)∧(0 ≤ x.2.2∧x.2.2 ≤ 8):=by
 unfold okW;simp only [Bool.and_eq_true,Bool.or_eq_true,decide_eq_true_eq];omega
def oneE (b:Bool):Int:=if b then 0 else 2
theorem one_any (s f c:Int) (w:World) {b:Bool} (h:okW (s,f,c) = b):Calls Tryz.prog 165 #[.agg #[.int .i64 s,.int .i64 f,.int .i64 c]] w fun e w' => e = .returned (.int .i64 (oneE b))∧Below w.heap.size w w':=by
 have H:=Lib.hid h;clear h
 go_enter Tryz.func165,Tryz.ntmps165
 go_wp2
 all_goals
  go_ret
  refine ⟨ret_int ?_,zbl⟩
  have h:=H.out
  have hi:=okW_iff (s,f,c)
  rw [h] at hi
  cases b
  ·first | rfl | (exfalso;simp only [Bool.false_eq_true,false_iff] at hi;omega)
  ·first | rfl | (exfalso;simp only [true_iff] at hi;omega)
theorem hit_one (pre:List Wr) (y x:Wr):hit (pre ++ [y]) x = (hit pre x || (decide (y.1 = x.1) || (decide (y.2.1 = x.2.1) || (decide (x.2.2 ≠ 0) && decide (y.2.2 = x.2.2))))):=by simp [hit,List.any_append]
theorem chkG_at {l:List Wr} {k:Nat} {x:Wr} (h:l[k]? = some x) :
  chkG (l.take k) (l.drop k) = if okW x then (if hit (l.take k) x then (7,k) else chkG (l.take (k + 1)) (l.drop (k + 1))) else (2,k):=by
 obtain ⟨hk,rfl⟩:=List.getElem?_eq_some_iff.1 h
 rw [List.drop_eq_getElem_cons hk,chkG,List.take_succ_eq_append_getElem hk]
 have:(l.take k).length = k:=by simp;omega
 rw [this]
theorem hit_mono {l:List Wr} {x:Wr} {i j:Nat} (hij:i ≤ j) (h:hit (l.take i) x = true):hit (l.take j) x = true:=by
 unfold hit at h ⊢;rw [List.any_eq_true] at h ⊢;obtain ⟨y,hy,h⟩:=h;exact ⟨y,(List.take_subset_take_left l hij) hy,h⟩
theorem RCheck_any (A:Option Addr) (c:Nat) (l:List Wr) (w:World) (ha:SW w A l) (la:l.length ≤ 1000) {z:Int} {n:Nat} (h:chkS l = (z,n)) :
  Calls Tryz.prog 131 #[.slice A l.length c] w fun e w' => e = .returned (.tuple #[.int .i64 z,.int .i64 n])∧Below w.heap.size w w':=by
 have HA:=Lib.hid ha
 clear ha
 by_cases h16:16 < l.length
 ·have hS:chkS l = (5,0):=by unfold chkS;rw [if_pos h16]
  rw [hS] at h
  obtain ⟨rfl,rfl⟩:=Prod.mk.inj h
  have h16':(16:Int) < l.length:=by omega
  clear hS h
  go_enter Tryz.func131,Tryz.ntmps131
  go_wp2
  refine bodyPost_ret (by simp [results,Tryz.results131,go_sem] <;> rfl) rfl ?_
  exact ⟨rfl,Below.refl _ _⟩
 ·have hS:chkG [] l = (z,n):=by rw [← h];unfold chkS;rw [if_neg h16]
  have HS:=Lib.hid hS
  clear hS h
  have h16':(l.length:Int) ≤ 16:=by omega
  go_enter Tryz.func131,Tryz.ntmps131
  go_wp2
  go_loopw [4] (fun i wr => ∃ k:Nat,k ≤ l.length∧i = .int .i64 k∧Hid (chkG [] l = chkG (l.take k) (l.drop k))∧Below w.heap.size w wr) (fun i _ => l.length - (intOf i).toNat)
  case atStart => exact ⟨0,by omega,rfl,by show _ = _;simp,Below.refl _ _⟩
  case round =>
   obtain ⟨k,hk,rfl,HR,hbw⟩:=hrel
   by_cases hlt:k < l.length
   ·obtain ⟨b,off,x,rfl,hbl,hx,q0,q1,q2⟩:=(HA.out.ext hbw).at_ hlt
    have i1:(k:Int) < l.length:=by omega
    have HR':=HR.out
    rw [chkG_at hx] at HR'
    have HX:=Lib.hid hx
    clear hx HR
    cases hok:okW x with
    | false =>
     rw [hok,HS.out,if_neg (by simp)] at HR'
     obtain ⟨rfl,rfl⟩:=Prod.mk.inj HR'
     clear HR'
     go_wp2_with (first | (go_at_call 165;with_reducible refine (one_any _ _ _ _ hok).mono ?_;rintro e w1 ⟨rfl,hb1⟩;simp only [oneE,Bool.false_eq_true,if_false]))
     refine bodyPost_ret (by simp [results,Tryz.results131,go_sem] <;> rfl) rfl ?_
     exact ⟨rfl,zbl⟩
    | true =>
     rw [hok,if_pos rfl] at HR'
     have HRR:=Lib.hid HR'
     clear HR'
     go_wp2_with (first | (go_at_call 165;with_reducible refine (one_any _ _ _ _ hok).mono ?_;rintro e w1 ⟨rfl,hb1⟩;simp only [oneE,if_true]))
     have hbw1:=zbt hbw hb1
     have H1:Hid (SW w1 (some ⟨b,off,none⟩) l):=HA.out.ext hbw1
     have r0:=cell_keep hb1 q0 hbl
     have r1:=cell_keep hb1 q1 hbl
     have r2:=cell_keep hb1 q2 hbl
     have hbl1:b < w1.heap.size:=Nat.lt_of_lt_of_le hbl hb1.size
     clear q0 q1 q2
     go_loopw [6] (fun i wr => ∃ j:Nat,j ≤ k∧i = .int .i64 j∧Hid (hit (l.take j) x = false)∧Below w1.heap.size w1 wr) (fun i _ => k - (intOf i).toNat)
     case atStart => exact ⟨0,by omega,rfl,by show _ = _;simp [hit],Below.refl _ _⟩
     case round =>
      obtain ⟨j,hj,rfl,HJ,hbj⟩:=hrel
      have s0:=cell_keep hbj r0 hbl1
      have s1:=cell_keep hbj r1 hbl1
      have s2:=cell_keep hbj r2 hbl1
      by_cases hjk:j < k
      ·obtain ⟨b',off',y,e',hbl',hy,t0,t1,t2⟩:=(H1.out.ext hbj).at_ (show j < l.length by omega)
       injection e' with e'
       injection e' with e1 e2
       subst e1 e2
       have j1:(j:Int) < l.length:=by omega
       have j2:(j:Int) < k:=by omega
       have HT:Hid (hit (l.take (j + 1)) x = (decide (y.1 = x.1) || (decide (y.2.1 = x.2.1) || (decide (x.2.2 ≠ 0) && decide (y.2.2 = x.2.2))))):=by
        show _ = _
        obtain ⟨hj',rfl⟩:=List.getElem?_eq_some_iff.1 hy
        rw [List.take_succ_eq_append_getElem hj',hit_one,HJ.out]
        simp
       have hret:hit (l.take (j + 1)) x = true→(7 = z∧k = n):=fun h => by
        have:=HRR.out
        rw [if_pos (hit_mono (by omega) h),HS.out] at this
        obtain ⟨h1,h2⟩:=Prod.mk.inj this
        exact ⟨h1.symm,h2.symm⟩
       clear hy r0 r1 r2 hbl'
       by_cases e1:y.1 = x.1
       ·have e1b:(y.1 == x.1) = true:=by simpa using e1
        go_wp2_with fail
        go_quiet (fail)
        go_wp2_with fail
        refine bodyPost_ret (by simp [results,Tryz.results131,go_sem] <;> rfl) rfl ?_
        obtain ⟨rfl,rfl⟩:=hret (by rw [HT.out];simp [*])
        exact ⟨rfl,hbw1.trans ((show Below w1.heap.size w1 _ from zbl).mono hbw1.size)⟩
       ·have e1b:(y.1 == x.1) = false:=by simpa using e1
        by_cases e2:y.2.1 = x.2.1
        ·have e2b:(y.2.1 == x.2.1) = true:=by simpa using e2
         go_wp2_with fail
         go_quiet (fail)
         go_wp2_with fail
         refine bodyPost_ret (by simp [results,Tryz.results131,go_sem] <;> rfl) rfl ?_
         obtain ⟨rfl,rfl⟩:=hret (by rw [HT.out];simp [*])
         exact ⟨rfl,hbw1.trans ((show Below w1.heap.size w1 _ from zbl).mono hbw1.size)⟩
        ·have e2b:(y.2.1 == x.2.1) = false:=by simpa using e2
         by_cases e3:x.2.2 = 0
         ·rw [e3] at s2
          have E3:=Lib.hid e3
          clear e3
          go_wp2_with fail
          go_quiet (fail)
          go_wp2_with fail
          go_roundw
          case rel => exact ⟨j + 1,by omega,by go_num,by show _ = _;rw [HT.out];have:=E3.out;simp [*],zbl⟩
          case measure => simp [intOf];omega
         ·have e3b:(x.2.2 != 0) = true:=by simpa using e3
          have e3c:(x.2.2 == 0) = false:=by simpa using e3
          by_cases e4:y.2.2 = x.2.2
          ·have e4b:(y.2.2 == x.2.2) = true:=by simpa using e4
           go_wp2_with fail
           go_quiet (fail)
           go_wp2_with fail
           refine bodyPost_ret (by simp [results,Tryz.results131,go_sem] <;> rfl) rfl ?_
           obtain ⟨rfl,rfl⟩:=hret (by rw [HT.out];simp [*])
           exact ⟨rfl,hbw1.trans ((show Below w1.heap.size w1 _ from zbl).mono hbw1.size)⟩
          ·have e4b:(y.2.2 == x.2.2) = false:=by simpa using e4
           go_wp2_with fail
           go_quiet (fail)
           go_wp2_with fail
           go_roundw
           case rel => exact ⟨j + 1,by omega,by go_num,by show _ = _;rw [HT.out];simp [*],zbl⟩
           case measure => simp [intOf];omega
      ·obtain rfl:j = k:=by omega
       go_wp2_with fail
       go_roundw
       case rel =>
        have hr:=HRR.out
        rw [HJ.out,if_neg (by simp)] at hr
        exact ⟨j + 1,by omega,by go_num,hr,hbw1.trans (hbj.mono hbw1.size)⟩
       case measure => simp [intOf];omega
   ·have hd:l.drop k = []:=List.drop_eq_nil_of_le (by omega)
    have hz:=HR.out
    rw [hd,chkG,HS.out] at hz
    obtain ⟨rfl,rfl⟩:=Prod.mk.inj hz
    clear hz HR HS hd
    go_wp2
    refine bodyPost_ret (by simp [results,Tryz.results131,go_sem] <;> rfl) rfl ?_
    exact ⟨rfl,zbl⟩
def askS (l:List Wr) (s f p:Int):Int:=if (chkS l).1 ≠ 0 then (chkS l).1 else if okW (s,f,0) = true∧(1 ≤ p∧p ≤ 8) then 0 else 2
theorem asks_any (A:Option Addr) (c:Nat) (l:List Wr) (s f p:Int) (w:World) (ha:SW w A l) (la:l.length ≤ 1000) {z:Int} (h:askS l s f p = z) :
  Calls Tryz.prog 116 #[.slice A l.length c,.int .i64 s,.int .i64 f,.int .i64 p] w fun e w' => e = .returned (.int .i64 z)∧Below w.heap.size w w':=by
 have HA:=Lib.hid ha
 clear ha
 obtain ⟨⟨y,n⟩,hk⟩:∃ r,chkS l = r:=⟨_,rfl⟩
 unfold askS at h
 rw [hk] at h
 have HK:=Lib.hid hk
 clear hk
 by_cases hy:y = 0
 ·subst hy
  rw [if_neg (by simp)] at h
  cases hok:okW (s,f,0) with
  | false =>
   rw [hok,if_neg (by simp)] at h
   subst h
   go_enter Tryz.func116,Tryz.ntmps116
   go_wp2_with (first | (go_at_call 131;with_reducible refine (RCheck_any _ _ _ _ HA.out la HK.out).mono ?_;rintro e w1 ⟨rfl,hb1⟩) | (go_at_call 165;with_reducible refine (one_any _ _ _ _ hok).mono ?_;rintro e w2 ⟨rfl,hb2⟩;simp only [oneE,Bool.false_eq_true,if_false]))
   go_ret
   exact ⟨rfl,zbl⟩
  | true =>
   rw [hok] at h
   by_cases hp:1 ≤ p∧p ≤ 8
   ·rw [if_pos ⟨rfl,hp⟩] at h
    subst h
    obtain ⟨p1,p2⟩:=hp
    go_enter Tryz.func116,Tryz.ntmps116
    go_wp2_with (first | (go_at_call 131;with_reducible refine (RCheck_any _ _ _ _ HA.out la HK.out).mono ?_;rintro e w1 ⟨rfl,hb1⟩) | (go_at_call 165;with_reducible refine (one_any _ _ _ _ hok).mono ?_;rintro e w2 ⟨rfl,hb2⟩;simp only [oneE,if_true]))
    go_ret
    exact ⟨rfl,zbl⟩
   ·rw [if_neg (fun h => hp h.2)] at h
    subst h
    rcases (by omega:p < 1 ∨ (1 ≤ p∧8 < p)) with p1 | ⟨p1,p2⟩
    all_goals
     go_enter Tryz.func116,Tryz.ntmps116
     go_wp2_with (first | (go_at_call 131;with_reducible refine (RCheck_any _ _ _ _ HA.out la HK.out).mono ?_;rintro e w1 ⟨rfl,hb1⟩) | (go_at_call 165;with_reducible refine (one_any _ _ _ _ hok).mono ?_;rintro e w2 ⟨rfl,hb2⟩;simp only [oneE,if_true]))
     go_ret
     exact ⟨rfl,zbl⟩
 ·rw [if_pos hy] at h
  subst h
  have hyb:(y == 0) = false:=by simpa using hy
  go_enter Tryz.func116,Tryz.ntmps116
  go_wp2_with (first | (go_at_call 131;with_reducible refine (RCheck_any _ _ _ _ HA.out la HK.out).mono ?_;rintro e w1 ⟨rfl,hb1⟩))
  go_ret
  exact ⟨rfl,zbl⟩
def rfnS (l:List Wr) (s:Int):Int:=match l.findIdx? (fun x => decide (x.1 = s)) with | none => -1 | some i => (i:Int)
theorem findIdx_take {p:Wr→Bool} {l:List Wr} {k:Nat} (h:∀ j:Nat,j < k→∀ x,l[j]? = some x→p x = false) (hk:l.length ≤ k):l.findIdx? p = none:=by
 rw [List.findIdx?_eq_none_iff];intro x hx;obtain ⟨j,hj,rfl⟩:=List.getElem_of_mem hx;exact h j (by omega) _ (List.getElem?_eq_getElem hj)
theorem findIdx_hit {p:Wr→Bool} {l:List Wr} {k:Nat} {x:Wr} (h:∀ j:Nat,j < k→∀ x,l[j]? = some x→p x = false) (hx:l[k]? = some x) (hp:p x = true):l.findIdx? p = some k:=by
 obtain ⟨hk,rfl⟩:=List.getElem?_eq_some_iff.1 hx;rw [List.findIdx?_eq_some_iff_getElem];exact ⟨hk,hp,fun j hj => by rw [h j hj _ (List.getElem?_eq_getElem (by omega))];simp⟩
theorem rfind_any (A:Option Addr) (c:Nat) (l:List Wr) (s:Int) (w:World) (ha:SW w A l) (la:l.length ≤ 1000) :
  Calls Tryz.prog 154 #[.slice A l.length c,.int .i64 s] w fun e w' => e = .returned (.int .i64 (rfnS l s))∧Below w.heap.size w w':=by
 have HA:=Lib.hid ha
 clear ha
 go_enter Tryz.func154,Tryz.ntmps154
 go_wp2
 go_loopw [5] (fun i wr => ∃ k:Nat,k ≤ l.length∧i = .int .i64 k∧Hid (∀ j:Nat,j < k→∀ x,l[j]? = some x→decide (x.1 = s) = false)∧Below w.heap.size w wr) (fun i _ => l.length - (intOf i).toNat)
 case atStart => exact ⟨0,by omega,rfl,fun j hj => absurd hj (by omega),Below.refl _ _⟩
 case round =>
  obtain ⟨k,hk,rfl,HR,hbw⟩:=hrel
  by_cases hlt:k < l.length
  ·obtain ⟨b,off,x,rfl,hbl,hx,q0,q1,q2⟩:=(HA.out.ext hbw).at_ hlt
   have i1:(k:Int) < l.length:=by omega
   have HX:=Lib.hid hx
   clear hx
   by_cases e1:x.1 = s
   ·have HF:Hid (rfnS l s = k):=by show _ = _;unfold rfnS;rw [findIdx_hit HR.out HX.out (by simpa using e1)]
    have e1':(x.1 == s) = true:=by simpa using e1
    go_wp2
    go_ret
    exact ⟨ret_int HF.out.symm,zbl⟩
   ·have e1':(x.1 == s) = false:=by simpa using e1
    go_wp2
    go_roundw
    case rel =>
     refine ⟨k + 1,by omega,by go_num,fun j hj y hy => ?_,zbl⟩
     rcases (by omega:j < k ∨ j = k) with h | rfl
     ·exact HR.out j h y hy
     ·rw [HX.out] at hy
      injection hy with hy
      subst hy
      simpa using e1
    case measure => simp [intOf];omega
  ·have HF:Hid (rfnS l s = -1):=by show _ = _;unfold rfnS;rw [findIdx_take HR.out (by omega)]
   go_wp2
   go_ret
   exact ⟨ret_int HF.out.symm,zbl⟩
def prtE (s:Swp):Int:=if s.cap < 1 ∨ 16 < s.cap then 2 else if (chkT s.sl).1 ≠ 0 then (chkT s.sl).1 else if (chkS s.wr).1 ≠ 0 then (chkS s.wr).1 else if (chkD s.dk).1 ≠ 0 then (chkD s.dk).1 else (chkP s.po).1
theorem chkW_prt (s:Swp):chkW s = if prtE s ≠ 0 then prtE s else if agW s then 0 else 3:=by
 unfold chkW prtE
 by_cases h0:s.cap < 1 ∨ 16 < s.cap
 ·rw [if_pos h0,if_pos h0];rfl
 rw [if_neg h0,if_neg h0]
 by_cases h1:(chkT s.sl).1 ≠ 0
 ·rw [if_pos h1,if_pos h1,if_pos h1]
 rw [if_neg h1,if_neg h1]
 by_cases h2:(chkS s.wr).1 ≠ 0
 ·rw [if_pos h2,if_pos h2,if_pos h2]
 rw [if_neg h2,if_neg h2]
 by_cases h3:(chkD s.dk).1 ≠ 0
 ·rw [if_pos h3,if_pos h3,if_pos h3]
 rw [if_neg h3,if_neg h3]
theorem prt_ok {s:Swp} (h:prtE s = 0):OkT s.sl∧Valid s.wr∧OkD s.dk∧OkP s.po:=by
 unfold prtE at h
 by_cases h0:s.cap < 1 ∨ 16 < s.cap
 ·rw [if_pos h0] at h;cases h
 rw [if_neg h0] at h
 by_cases h1:(chkT s.sl).1 ≠ 0
 ·rw [if_pos h1] at h;exact absurd h h1
 rw [if_neg h1] at h
 by_cases h2:(chkS s.wr).1 ≠ 0
 ·rw [if_pos h2] at h;exact absurd h h2
 rw [if_neg h2] at h
 by_cases h3:(chkD s.dk).1 ≠ 0
 ·rw [if_pos h3] at h;exact absurd h h3
 rw [if_neg h3] at h;exact ⟨chkT_ok.1 (by simpa using h1),chkS_ok.1 (by simpa using h2),chkD_ok.1 (by simpa using h3),chkP_ok h⟩
theorem rwParts_any (L:Lay) (s:Swp) (w:World) (h:SwR w L s) (hf:Few s):Calls Tryz.prog 64 #[swV L s] w fun e w' => e = .returned (.int .i64 (prtE s))∧Below w.heap.size w w':=by
 obtain ⟨a0,c0,a1,c1,a2,c2,a3,c3,a4,c4,a5,c5,a6,c6,a7,c7⟩:=L;have HS:=Lib.hid h;obtain ⟨f0,f1,f2,f3,f4,f5,f6,f7⟩:=hf;obtain ⟨R,hR⟩:∃ R,prtE s = R:=⟨_,rfl⟩;rw [hR];have HR:=Lib.hid hR;clear h hR;unfold swV swC;obtain ⟨X,hX⟩:∃ X,w.alloc (.cells (zkx s a0 c0 a1 c1 a2 c2 a3 c3 a4 c4 a5 c5 a6 c6 a7 c7).toArray 35) = X:=⟨_,rfl⟩;have kX:Blk X w.heap.size 35 (zkx s a0 c0 a1 c1 a2 c2 a3 c3 a4 c4 a5 c5 a6 c6 a7 c7).toArray:=by rw [← hX];exact zbk
 have BX:Below w.heap.size w X:=by rw [← hX];exact zbl
 have zX:=kX.lt;obtain ⟨q0,-⟩:=zc11 kX
 by_cases p0:s.cap < 1
 ·have HE:Hid (R = 2):=by show _ = _;rw [← HR.out];unfold prtE;rw [if_pos (.inl p0)]
  have b0:decide (s.cap < 1) = true:=by simpa using p0
  clear p0
  go_enter Tryz.func64,Tryz.ntmps64
  go_wp2_with fail;go_ret;exact ⟨by rw [HE.out];rfl,BX⟩
 ·have b0:decide (s.cap < 1) = false:=by simpa using p0
  by_cases p1:16 < s.cap
  ·have HE:Hid (R = 2):=by show _ = _;rw [← HR.out];unfold prtE;rw [if_pos (.inr p1)]
   have b1:decide (s.cap > 16) = true:=by simpa using p1
   clear p0 p1
   go_enter Tryz.func64,Tryz.ntmps64
   go_wp2_with fail;go_ret;exact ⟨by rw [HE.out];rfl,BX⟩
  ·have b1:decide (s.cap > 16) = false:=by simpa using p1
   have HC:Hid (¬ (s.cap < 1 ∨ 16 < s.cap)):=fun h => h.elim p0 p1
   clear p0 p1
   go_enter Tryz.func64,Tryz.ntmps64
   obtain ⟨⟨z1,n1⟩,hz1⟩:∃ r,chkT s.sl = r:=⟨_,rfl⟩;have HZ1:=Lib.hid hz1;clear hz1;obtain ⟨-,q1,q2,-⟩:=zc11 kX;go_wp2_with fail;(try rw [hX]);clear hX;refine (rsCheck_any a0 a1 c0 c1 s.sl X (HS.out.r0.ext BX) (by omega) (by omega) HZ1.out).mono ?_;rintro e1 w1 ⟨rfl,hb1⟩;have B1:=zbt BX hb1;replace kX:=kX.below_ hb1 kX.lt;clear hb1;clear q1 q2;clear zX
   by_cases y1:z1 = 0
   ·subst y1
    obtain ⟨⟨z2,n2⟩,hz2⟩:∃ r,chkS s.wr = r:=⟨_,rfl⟩;have HZ2:=Lib.hid hz2;clear hz2;obtain ⟨-,-,-,q3,-⟩:=zc11 kX;have zX:=kX.lt;go_wp2_with fail;refine (RCheck_any a2 c2 s.wr w1 (HS.out.r2.ext B1).sw (by omega) HZ2.out).mono ?_;rintro e2 w2 ⟨rfl,hb2⟩;have B2:=zbt B1 hb2;replace kX:=kX.below_ hb2 kX.lt;clear hb2;clear q3;clear zX
    by_cases y2:z2 = 0
    ·subst y2
     obtain ⟨⟨z3,n3⟩,hz3⟩:∃ r,chkD s.dk = r:=⟨_,rfl⟩;have HZ3:=Lib.hid hz3;clear hz3;obtain ⟨-,-,-,-,-,-,q6,q7,q8,-⟩:=zc11 kX;have zX:=kX.lt;go_wp2_with fail;refine (rdCheck_any a5 a6 c5 c6 s.dk w2 (HS.out.r6.ext B2) (by omega) (by omega) HZ3.out).mono ?_;rintro e3 w3 ⟨rfl,hb3⟩;have B3:=zbt B2 hb3;replace kX:=kX.below_ hb3 kX.lt;clear hb3;clear q6 q7 q8;clear zX
     by_cases y3:z3 = 0
     ·subst y3
      obtain ⟨⟨z4,n4⟩,hz4⟩:∃ r,chkP s.po = r:=⟨_,rfl⟩;have HZ4:=Lib.hid hz4;clear hz4;obtain ⟨-,-,-,-,-,-,-,-,-,q9,q10⟩:=zc11 kX;have zX:=kX.lt;go_wp2_with fail;refine (rpCheck_any a7 c7 s.po w3 (HS.out.r7.ext B3) (by omega) HZ4.out).mono ?_;rintro e4 w4 ⟨rfl,hb4⟩;have B4:=zbt B3 hb4;replace kX:=kX.below_ hb4 kX.lt;clear hb4;clear q9 q10;clear zX;have HE:Hid (R = z4):=by show _ = _;rw [← HR.out];unfold prtE;rw [if_neg HC.out,HZ1.out,if_neg (by simp),HZ2.out,if_neg (by simp),HZ3.out,if_neg (by simp),HZ4.out]
      go_wp2_with fail;go_ret;exact ⟨by rw [HE.out];rfl,B4⟩
     ·have HE:Hid (R = z3):=by show _ = _;rw [← HR.out];unfold prtE;rw [if_neg HC.out,HZ1.out,if_neg (by simp),HZ2.out,if_neg (by simp),HZ3.out,if_pos (by simpa using y3)]
      have yb:(z3 == 0) = false:=by simpa using y3
      clear y3;go_wp2_with fail;go_ret;exact ⟨by rw [HE.out];rfl,B3⟩
    ·have HE:Hid (R = z2):=by show _ = _;rw [← HR.out];unfold prtE;rw [if_neg HC.out,HZ1.out,if_neg (by simp),HZ2.out,if_pos (by simpa using y2)]
     have yb:(z2 == 0) = false:=by simpa using y2
     clear y2;go_wp2_with fail;go_ret;exact ⟨by rw [HE.out];rfl,B2⟩
   ·have HE:Hid (R = z1):=by show _ = _;rw [← HR.out];unfold prtE;rw [if_neg HC.out,HZ1.out,if_pos (by simpa using y1)]
    have yb:(z1 == 0) = false:=by simpa using y1
    clear y1;go_wp2_with fail;go_ret;exact ⟨by rw [HE.out];rfl,B1⟩
theorem rwJob_any (L:Lay) (s:Swp) (n:Int) (w:World) (h:SR jbE w L.a6 s.dk.jobs) (hf:s.dk.jobs.length ≤ 1000):Calls Tryz.prog 68 #[swV L s,.int .i64 n] w fun e w' => e = .returned (.int .i64 (jobI s.dk.jobs n))∧Below w.heap.size w w':=by
 obtain ⟨a0,c0,a1,c1,a2,c2,a3,c3,a4,c4,a5,c5,a6,c6,a7,c7⟩:=L;have HS:=Lib.hid h;obtain ⟨R,hR⟩:∃ R,jobI s.dk.jobs n = R:=⟨_,rfl⟩;rw [hR];have HR:=Lib.hid hR;clear h hR;unfold swV swC;obtain ⟨X,hX⟩:∃ X,w.alloc (.cells (zkx s a0 c0 a1 c1 a2 c2 a3 c3 a4 c4 a5 c5 a6 c6 a7 c7).toArray 35) = X:=⟨_,rfl⟩;have kX:Blk X w.heap.size 35 (zkx s a0 c0 a1 c1 a2 c2 a3 c3 a4 c4 a5 c5 a6 c6 a7 c7).toArray:=by rw [← hX];exact zbk
 have BX:Below w.heap.size w X:=by rw [← hX];exact zbl
 have zX:=kX.lt
 go_enter Tryz.func68,Tryz.ntmps68
 go_wp2_with fail;(try rw [hX]);clear hX
 go_loopw [5] (fun i wr => ∃ k:Nat,k ≤ s.dk.jobs.length∧i = .int .i64 k∧Hid (∀ y ∈ s.dk.jobs.take k,y.slot ≠ n)∧Below X.heap.size X wr) (fun i _ => s.dk.jobs.length - (intOf i).toNat)
 case atStart => exact ⟨0,by omega,rfl,fun y hy => by simp at hy,Below.refl _ _⟩
 case round =>
  obtain ⟨k,hk,rfl,HN,hbw⟩:=hrel;have b1:=BX.trans (hbw.mono BX.size);have kX1:=kX.below_ hbw zX;have zX1:=kX1.lt;obtain ⟨-,-,-,-,-,-,-,q7,-⟩:=zc11 kX1
  by_cases hlt:k < s.dk.jobs.length
  ·obtain ⟨b,off,x,rfl,hbl,hx,hc⟩:=(HS.out.ext b1).at_ (k:=k) hlt
   obtain ⟨jw,js,jf,jd⟩:=x;have e1:wr.cell? ⟨b,off + k * 11 + 1,none⟩ = some (.int .i64 js):=hc 1 _ rfl;have i1:(k:Int) < s.dk.jobs.length:=by omega
   have HX:=Lib.hid hx;clear hc hx
   by_cases e:js = n
   ·have HE:Hid (R = k):=by
     show _ = _;rw [← HR.out];unfold jobI;rw [List.findIdx?_eq_some_iff_getElem.2 ⟨hlt,by have:=HX.out;rw [List.getElem?_eq_getElem hlt] at this;injection this with this;rw [this];simpa using e,fun j hj => by have:=HN.out _ (List.mem_of_getElem? (by rw [List.getElem?_take_of_lt hj];exact List.getElem?_eq_getElem (by omega)));simpa using this⟩]
    have eb:(js == n) = true:=by simpa using e
    clear e;go_wp2_with fail;go_ret;exact ⟨by rw [HE.out];rfl,b1⟩
   ·have eb:(js == n) = false:=by simpa using e
    have HN2:Hid (∀ y ∈ s.dk.jobs.take (k + 1),y.slot ≠ n):=by
     show ∀ y ∈ _,_
     rw [List.take_add_one,HX.out];intro y hy
     rcases List.mem_append.1 hy with hy | hy
     ·exact HN.out y hy
     ·simp at hy;rw [hy];exact e
    clear e;go_wp2_with fail
    go_roundw
    case rel => exact ⟨k + 1,by omega,by go_num,HN2.out,hbw⟩
    case measure => simp [intOf];omega
  ·have HE:Hid (R = -1):=by
    show _ = _;rw [← HR.out];unfold jobI;have:=HN.out;rw [List.take_of_length_le (by omega)] at this;rw [List.findIdx?_eq_none_iff.2 fun y hy => by simpa using this y hy]
   go_wp2_with fail;go_ret;exact ⟨by rw [HE.out];rfl,b1⟩
theorem rwWorking_any (L:Lay) (s:Swp) (n:Int) (w:World) (h:SR jbE w L.a6 s.dk.jobs) (hf:s.dk.jobs.length ≤ 1000):Calls Tryz.prog 53 #[swV L s,.int .i64 n] w fun e w' => e = .returned (.bool (usW s n))∧Below w.heap.size w w':=by
 obtain ⟨a0,c0,a1,c1,a2,c2,a3,c3,a4,c4,a5,c5,a6,c6,a7,c7⟩:=L;have HS:=Lib.hid h;obtain ⟨R,hR⟩:∃ R,usW s n = R:=⟨_,rfl⟩;rw [hR];have HR:=Lib.hid hR;clear h hR;unfold swV swC;obtain ⟨X,hX⟩:∃ X,w.alloc (.cells (zkx s a0 c0 a1 c1 a2 c2 a3 c3 a4 c4 a5 c5 a6 c6 a7 c7).toArray 35) = X:=⟨_,rfl⟩;have kX:Blk X w.heap.size 35 (zkx s a0 c0 a1 c1 a2 c2 a3 c3 a4 c4 a5 c5 a6 c6 a7 c7).toArray:=by rw [← hX];exact zbk
 have BX:Below w.heap.size w X:=by rw [← hX];exact zbl
 have zX:=kX.lt
 go_enter Tryz.func53,Tryz.ntmps53
 go_wp2_with fail;(try rw [hX]);clear hX
 go_loopw [5] (fun i wr => ∃ k:Nat,k ≤ s.dk.jobs.length∧i = .int .i64 k∧Hid (∀ y ∈ s.dk.jobs.take k,y.frame ≠ n)∧Below X.heap.size X wr) (fun i _ => s.dk.jobs.length - (intOf i).toNat)
 case atStart => exact ⟨0,by omega,rfl,fun y hy => by simp at hy,Below.refl _ _⟩
 case round =>
  obtain ⟨k,hk,rfl,HN,hbw⟩:=hrel;have b1:=BX.trans (hbw.mono BX.size);have kX1:=kX.below_ hbw zX;have zX1:=kX1.lt;obtain ⟨-,-,-,-,-,-,-,q7,-⟩:=zc11 kX1
  by_cases hlt:k < s.dk.jobs.length
  ·obtain ⟨b,off,x,rfl,hbl,hx,hc⟩:=(HS.out.ext b1).at_ (k:=k) hlt
   obtain ⟨jw,js,jf,jd⟩:=x;have e1:wr.cell? ⟨b,off + k * 11 + 2,none⟩ = some (.int .i64 jf):=hc 2 _ rfl;have i1:(k:Int) < s.dk.jobs.length:=by omega
   have HX:=Lib.hid hx;clear hc hx
   by_cases e:jf = n
   ·have HE:Hid (R = true):=by
     show _ = _;rw [← HR.out];exact List.any_eq_true.2 ⟨_,List.mem_of_getElem? HX.out,decide_eq_true e⟩
    have eb:(jf == n) = true:=by simpa using e
    clear e;go_wp2_with fail;go_ret;exact ⟨ret_bool HE.out.symm,b1⟩
   ·have eb:(jf == n) = false:=by simpa using e
    have HN2:Hid (∀ y ∈ s.dk.jobs.take (k + 1),y.frame ≠ n):=by
     show ∀ y ∈ _,_
     rw [List.take_add_one,HX.out];intro y hy
     rcases List.mem_append.1 hy with hy | hy
     ·exact HN.out y hy
     ·simp at hy;rw [hy];exact e
    clear e;go_wp2_with fail
    go_roundw
    case rel => exact ⟨k + 1,by omega,by go_num,HN2.out,hbw⟩
    case measure => simp [intOf];omega
  ·have HE:Hid (R = false):=by
    show _ = _;rw [← HR.out];have:=HN.out;rw [List.take_of_length_le (by omega)] at this
    exact List.any_eq_false.2 fun y hy => by simpa using this y hy
   go_wp2_with fail;go_ret;exact ⟨ret_bool HE.out.symm,b1⟩
theorem tmsL_succ {l:List Wr} {k:Nat} {x:Wr} {p:Int} (h:l[k]? = some x):tmsL (l.take (k + 1)) p = tmsL (l.take k) p + if x.2.2 = p then 1 else 0:=by
 unfold tmsL;rw [List.take_add_one,h,List.countP_append];simp [List.countP_cons]
theorem wtdL_succ {l:List Wr} {k:Nat} {x:Wr} {n:Int} (h:l[k]? = some x):wtdL (l.take (k + 1)) n = (wtdL (l.take k) n || (decide (x.1 = n) && decide (x.2.2 ≠ 0))):=by
 unfold wtdL;rw [List.take_add_one,h,List.any_append];simp
theorem wtdL_of {l:List Wr} {x:Wr} {n:Int} (h:x ∈ l) (h1:x.1 = n) (h2:x.2.2 ≠ 0):wtdL l n = true:=List.any_eq_true.2 ⟨x,h,by simp [h1,h2]⟩
theorem rwTimes_any (L:Lay) (s:Swp) (p:Int) (w:World) (h:SwR w L s) (hf:Few s):Calls Tryz.prog 67 #[swV L s,.int .i64 p] w fun e w' => e = .returned (.int .i64 ((tmsL (s.wr ++ s.rd) p:Nat):Int))∧Below w.heap.size w w':=by
 obtain ⟨a0,c0,a1,c1,a2,c2,a3,c3,a4,c4,a5,c5,a6,c6,a7,c7⟩:=L;have HS:=Lib.hid h;have f2:=hf.f2;have f3:=hf.f3;clear h hf;unfold swV swC;obtain ⟨X,hX⟩:∃ X,w.alloc (.cells (zkx s a0 c0 a1 c1 a2 c2 a3 c3 a4 c4 a5 c5 a6 c6 a7 c7).toArray 35) = X:=⟨_,rfl⟩;have kX:Blk X w.heap.size 35 (zkx s a0 c0 a1 c1 a2 c2 a3 c3 a4 c4 a5 c5 a6 c6 a7 c7).toArray:=by rw [← hX];exact zbk
 have BX:Below w.heap.size w X:=by rw [← hX];exact zbl
 have zX:=kX.lt
 go_enter Tryz.func67,Tryz.ntmps67
 go_wp2_with fail;(try rw [hX]);clear hX
 go_loopw [5,6] (fun c i wr => ∃ k m:Nat,k ≤ s.wr.length∧i = .int .i64 k∧c = .int .i64 m∧Hid (m = tmsL (s.wr.take k) p)∧Below X.heap.size X wr) (fun _ i _ => s.wr.length - (intOf i).toNat)
 case atStart => exact ⟨0,0,by omega,rfl,rfl,rfl,Below.refl _ _⟩
 case round =>
  obtain ⟨k,m,hk,rfl,rfl,HM,hbw⟩:=hrel;have b1:=BX.trans (hbw.mono BX.size);have kX1:=kX.below_ hbw kX.lt;have zX1:=kX1.lt;obtain ⟨-,-,-,q3,-⟩:=zc11 kX1;have hm:m ≤ 2000:=by rw [HM.out];unfold tmsL;have h1:=List.countP_le_length (p:=fun v:Wr => decide (v.2.2 = p)) (l:=s.wr.take k);have h2:=List.countP_le_length (p:=fun v:Wr => decide (v.2.2 = p)) (l:=s.wr);simp only [List.length_take] at h1;omega
  by_cases hlt:k < s.wr.length
  ·obtain ⟨b,off,x,rfl,hbl,hx,hc⟩:=(HS.out.r2.ext b1).at_ (k:=k) hlt
   have e1:wr.cell? ⟨b,off + k * 3 + 2,none⟩ = some (.int .i64 x.2.2):=hc 2 _ rfl;have i1:(k:Int) < s.wr.length:=by omega
   have HT:=Lib.hid (tmsL_succ (p:=p) hx);clear hc hx
   by_cases e:x.2.2 = p
   ·have eb:(x.2.2 == p) = true:=by simpa using e
    have HM2:Hid (m + 1 = tmsL (s.wr.take (k + 1)) p):=by show _ = _;have h1:=HT.out;rw [if_pos e] at h1;have h2:=HM.out;omega
    clear e;go_wp2_with fail
    go_roundw
    case rel => exact ⟨k + 1,m + 1,by omega,by go_num,by go_num,HM2.out,hbw⟩
    case measure => simp [intOf];omega
   ·have eb:(x.2.2 == p) = false:=by simpa using e
    have HM2:Hid (m = tmsL (s.wr.take (k + 1)) p):=by show _ = _;have h1:=HT.out;rw [if_neg e] at h1;have h2:=HM.out;omega
    clear e;go_wp2_with fail
    go_roundw
    case rel => exact ⟨k + 1,m,by omega,by go_num,rfl,HM2.out,hbw⟩
    case measure => simp [intOf];omega
  ·have HM2:Hid (m = tmsL s.wr p):=by have:=HM.out;rwa [List.take_of_length_le (by omega)] at this
   obtain ⟨wo,rfl⟩:∃ wo,wo = wr:=⟨_,rfl⟩;go_wp2_with fail;clear HM q3 zX1;replace HM:=HM2;clear HM2
   go_loopw [5,7] (fun c i wr => ∃ k m:Nat,k ≤ s.rd.length∧i = .int .i64 k∧c = .int .i64 m∧Hid (m = tmsL s.wr p + tmsL (s.rd.take k) p)∧Below wo.heap.size wo wr) (fun _ i _ => s.rd.length - (intOf i).toNat)
   case atStart => exact ⟨0,m,by omega,rfl,rfl,HM.out,Below.refl _ _⟩
   case round =>
    obtain ⟨k,m,hk,rfl,rfl,HM,hbw⟩:=hrel;have b1:=b1.trans (hbw.mono b1.size);have kX1:=kX1.below_ hbw kX1.lt;have zX1:=kX1.lt;obtain ⟨-,-,-,-,q4,-⟩:=zc11 kX1;have hm:m ≤ 2000:=by rw [HM.out];unfold tmsL;have h1:=List.countP_le_length (p:=fun v:Wr => decide (v.2.2 = p)) (l:=s.rd.take k);have h2:=List.countP_le_length (p:=fun v:Wr => decide (v.2.2 = p)) (l:=s.wr);simp only [List.length_take] at h1;omega
    by_cases hlt:k < s.rd.length
    ·obtain ⟨b,off,x,rfl,hbl,hx,hc⟩:=(HS.out.r3.ext b1).at_ (k:=k) hlt
     have e1:wr.cell? ⟨b,off + k * 3 + 2,none⟩ = some (.int .i64 x.2.2):=hc 2 _ rfl;have i1:(k:Int) < s.rd.length:=by omega
     have HT:=Lib.hid (tmsL_succ (p:=p) hx);clear hc hx
     by_cases e:x.2.2 = p
     ·have eb:(x.2.2 == p) = true:=by simpa using e
      have HM2:Hid (m + 1 = tmsL s.wr p + tmsL (s.rd.take (k + 1)) p):=by show _ = _;have h1:=HT.out;rw [if_pos e] at h1;have h2:=HM.out;omega
      clear e;go_wp2_with fail
      go_roundw
      case rel => exact ⟨k + 1,m + 1,by omega,by go_num,by go_num,HM2.out,hbw⟩
      case measure => simp [intOf];omega
     ·have eb:(x.2.2 == p) = false:=by simpa using e
      have HM2:Hid (m = tmsL s.wr p + tmsL (s.rd.take (k + 1)) p):=by show _ = _;have h1:=HT.out;rw [if_neg e] at h1;have h2:=HM.out;omega
      clear e;go_wp2_with fail
      go_roundw
      case rel => exact ⟨k + 1,m,by omega,by go_num,rfl,HM2.out,hbw⟩
      case measure => simp [intOf];omega
    ·have HM2:Hid (m = tmsL s.wr p + tmsL s.rd p):=by have:=HM.out;rwa [List.take_of_length_le (by omega)] at this
     have HE:Hid (tmsL (s.wr ++ s.rd) p = m):=by show _ = _;rw [HM2.out];unfold tmsL;rw [List.countP_append]
     go_wp2_with fail;go_ret;exact ⟨ret_int (by rw [HE.out]),b1⟩
theorem rwWaited_any (L:Lay) (s:Swp) (n:Int) (w:World) (h:SwR w L s) (hf:Few s):Calls Tryz.prog 69 #[swV L s,.int .i64 n] w fun e w' => e = .returned (.bool (wtdL (s.wr ++ s.rd) n))∧Below w.heap.size w w':=by
 obtain ⟨a0,c0,a1,c1,a2,c2,a3,c3,a4,c4,a5,c5,a6,c6,a7,c7⟩:=L;have HS:=Lib.hid h;have f2:=hf.f2;have f3:=hf.f3;obtain ⟨R,hR⟩:∃ R,wtdL (s.wr ++ s.rd) n = R:=⟨_,rfl⟩;rw [hR];have HR:=Lib.hid hR;clear h hf hR;unfold swV swC;obtain ⟨X,hX⟩:∃ X,w.alloc (.cells (zkx s a0 c0 a1 c1 a2 c2 a3 c3 a4 c4 a5 c5 a6 c6 a7 c7).toArray 35) = X:=⟨_,rfl⟩;have kX:Blk X w.heap.size 35 (zkx s a0 c0 a1 c1 a2 c2 a3 c3 a4 c4 a5 c5 a6 c6 a7 c7).toArray:=by rw [← hX];exact zbk
 have BX:Below w.heap.size w X:=by rw [← hX];exact zbl
 have zX:=kX.lt
 go_enter Tryz.func69,Tryz.ntmps69
 go_wp2_with fail;(try rw [hX]);clear hX
 go_loopw [5] (fun i wr => ∃ k:Nat,k ≤ s.wr.length∧i = .int .i64 k∧Hid (wtdL (s.wr.take k) n = false)∧Below X.heap.size X wr) (fun i _ => s.wr.length - (intOf i).toNat)
 case atStart => exact ⟨0,by omega,rfl,rfl,Below.refl _ _⟩
 case round =>
  obtain ⟨k,hk,rfl,HN,hbw⟩:=hrel;have b1:=BX.trans (hbw.mono BX.size);have kX1:=kX.below_ hbw kX.lt;have zX1:=kX1.lt;obtain ⟨-,-,-,q3,-⟩:=zc11 kX1
  by_cases hlt:k < s.wr.length
  ·obtain ⟨b,off,x,rfl,hbl,hx,hc⟩:=(HS.out.r2.ext b1).at_ (k:=k) hlt
   have e1:wr.cell? ⟨b,off + k * 3,none⟩ = some (.int .i64 x.1):=hc 0 _ rfl;have e2:wr.cell? ⟨b,off + k * 3 + 2,none⟩ = some (.int .i64 x.2.2):=hc 2 _ rfl;have i1:(k:Int) < s.wr.length:=by omega
   have HT:=Lib.hid (wtdL_succ (n:=n) hx);have HX:=Lib.hid (List.mem_of_getElem? hx);clear hc hx
   cases g1:(x.1 == n) with
   | false =>
    have h1:¬ x.1 = n:=by simpa using g1
    have HN2:Hid (wtdL (s.wr.take (k + 1)) n = false):=by show _ = _;rw [HT.out,HN.out];simp [h1]
    go_wp2_with fail
    go_roundw
    case rel => exact ⟨k + 1,by omega,by go_num,HN2.out,hbw⟩
    case measure => simp [intOf];omega
   | true =>
    have h1:x.1 = n:=by simpa using g1
    cases g2:(x.2.2 != 0) with
    | false =>
     have h2:x.2.2 = 0:=by simpa using g2
     have HN2:Hid (wtdL (s.wr.take (k + 1)) n = false):=by show _ = _;rw [HT.out,HN.out];simp [h2]
     clear h1 h2;go_wp2_with fail
     go_roundw
     case rel => exact ⟨k + 1,by omega,by go_num,HN2.out,hbw⟩
     case measure => simp [intOf];omega
    | true =>
     have h2:x.2.2 ≠ 0:=by simpa using g2
     have HE:Hid (R = true):=by show _ = _;rw [← HR.out];exact wtdL_of (by simp [HX.out]) h1 h2
     clear h1 h2;go_wp2_with fail;go_ret;exact ⟨ret_bool HE.out.symm,b1⟩
  ·have HN2:Hid (wtdL s.wr n = false):=by have:=HN.out;rwa [List.take_of_length_le (by omega)] at this
   obtain ⟨wo,rfl⟩:∃ wo,wo = wr:=⟨_,rfl⟩;have HW2:=HN2;go_wp2_with fail;clear HN HN2 q3 zX1
   go_loopw [6] (fun i wr => ∃ k:Nat,k ≤ s.rd.length∧i = .int .i64 k∧Hid (wtdL (s.rd.take k) n = false)∧Below wo.heap.size wo wr) (fun i _ => s.rd.length - (intOf i).toNat)
   case atStart => exact ⟨0,by omega,rfl,rfl,Below.refl _ _⟩
   case round =>
    obtain ⟨k,hk,rfl,HN,hbw⟩:=hrel;have b1:=b1.trans (hbw.mono b1.size);have kX1:=kX1.below_ hbw kX1.lt;have zX1:=kX1.lt;obtain ⟨-,-,-,-,q4,-⟩:=zc11 kX1
    by_cases hlt:k < s.rd.length
    ·obtain ⟨b,off,x,rfl,hbl,hx,hc⟩:=(HS.out.r3.ext b1).at_ (k:=k) hlt
     have e1:wr.cell? ⟨b,off + k * 3,none⟩ = some (.int .i64 x.1):=hc 0 _ rfl;have e2:wr.cell? ⟨b,off + k * 3 + 2,none⟩ = some (.int .i64 x.2.2):=hc 2 _ rfl;have i1:(k:Int) < s.rd.length:=by omega
     have HT:=Lib.hid (wtdL_succ (n:=n) hx);have HX:=Lib.hid (List.mem_of_getElem? hx);clear hc hx
     cases g1:(x.1 == n) with
     | false =>
      have h1:¬ x.1 = n:=by simpa using g1
      have HN2:Hid (wtdL (s.rd.take (k + 1)) n = false):=by show _ = _;rw [HT.out,HN.out];simp [h1]
      go_wp2_with fail
      go_roundw
      case rel => exact ⟨k + 1,by omega,by go_num,HN2.out,hbw⟩
      case measure => simp [intOf];omega
     | true =>
      have h1:x.1 = n:=by simpa using g1
      cases g2:(x.2.2 != 0) with
      | false =>
       have h2:x.2.2 = 0:=by simpa using g2
       have HN2:Hid (wtdL (s.rd.take (k + 1)) n = false):=by show _ = _;rw [HT.out,HN.out];simp [h2]
       clear h1 h2;go_wp2_with fail
       go_roundw
       case rel => exact ⟨k + 1,by omega,by go_num,HN2.out,hbw⟩
       case measure => simp [intOf];omega
      | true =>
       have h2:x.2.2 ≠ 0:=by simpa using g2
       have HE:Hid (R = true):=by show _ = _;rw [← HR.out];exact wtdL_of (by simp [HX.out]) h1 h2
       clear h1 h2;go_wp2_with fail;go_ret;exact ⟨ret_bool HE.out.symm,b1⟩
    ·have HN2:Hid (wtdL s.rd n = false):=by have:=HN.out;rwa [List.take_of_length_le (by omega)] at this
     have HE:Hid (R = false):=by show _ = _;rw [← HR.out];have h1:=HW2.out;have h2:=HN2.out;unfold wtdL at h1 h2 ⊢;rw [List.any_append,h1,h2];rfl
     go_wp2_with fail;go_ret;exact ⟨ret_bool HE.out.symm,b1⟩
end Go.Proofs.YthijbipidbjpfaaGreatDoor
