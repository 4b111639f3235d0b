import Derived.Test.YthijbipidbjpfaaGreatDoorZP06
import Derived.Test.YthijbipidbjpfaaGreatDoorZP03
import Derived.Test.YthijbipidbjpfaaGreatDoorZP00
import Derived.Test.YthijbipidbjpfaaGreatDoorZP05
import Derived.Shelf.Spec.TrailingZeros
set_option linter.unusedSimpArgs false
set_option linter.unusedVariables false
set_option maxRecDepth 100000
set_option maxHeartbeats 8000000
namespace Go.Proofs.YthijbipidbjpfaaGreatDoor
open Go.RowKit Go.Maps
def ClnPost{α:Type}(E:Elt Tryz.prog α)(l:List α)(w:World)(e:Ending)(w':World):Prop:=∃ A c,e=.returned (.slice A l.length c)∧OwnE E w' w.heap.size A c l∧Below w.heap.size w w'
theorem ClnI_any(A:Option Addr)(c:Nat)(l:List Int)(w:World)(ha:SR intE w A l)(la:l.length≤1000):Calls Tryz.prog 104 #[.slice A l.length c] w (ClnPost intE l w):=by
 have he:=fun (W:World) a n c n' c'=>Lib.run_eql_slice_nil (P:=Tryz.prog) W 22 3 a n c n' c' Tryz.underlying22
 cases A with
 | none=>
  obtain rfl:l=[]:=by
   cases l with
   | nil=>rfl
   | cons a t=>obtain⟨b,off,e,_⟩:=ha (SR.len_pos (by simp));cases e
  go_enter Tryz.func104,Tryz.ntmps104
  go_wp2
  go_ret;exact⟨none,0,rfl,⟨.inl ⟨rfl,SR.nil⟩,.inl rfl⟩,Below.refl _ _⟩
 | some ad=>
  have HA:=Lib.hid ha;clear ha
  go_enter Tryz.func104,Tryz.ntmps104
  go_wp2_with (at_builtin;refine wpList_appR intE rfl (.tmp 5) (.tmp 6) _ rfl rfl _ w.heap.size (by simp) (some ⟨w.heap.size,0,none⟩) 0 0 [] rfl (.inl ⟨rfl,SR.nil⟩) (some ad) c l.length l rfl (HA.out.ext zbl) (by simp;omega) rfl rfl ?_;intro A' c' w1 hc1 hb1 hm1)
  go_ret;exact⟨A',c',rfl,⟨hc1,hm1 (by simp)⟩,zbl⟩
theorem ClnB_any(A:Option Addr)(c:Nat)(l:List Bool)(w:World)(ha:SR boolE w A l)(la:l.length≤1000):Calls Tryz.prog 105 #[.slice A l.length c] w (ClnPost boolE l w):=by
 have he:=fun (W:World) a n c n' c'=>Lib.run_eql_slice_nil (P:=Tryz.prog) W 23 4 a n c n' c' Tryz.underlying23
 cases A with
 | none=>
  obtain rfl:l=[]:=by
   cases l with
   | nil=>rfl
   | cons a t=>obtain⟨b,off,e,_⟩:=ha (SR.len_pos (by simp));cases e
  go_enter Tryz.func105,Tryz.ntmps105
  go_wp2
  go_ret;exact⟨none,0,rfl,⟨.inl ⟨rfl,SR.nil⟩,.inl rfl⟩,Below.refl _ _⟩
 | some ad=>
  have HA:=Lib.hid ha;clear ha
  go_enter Tryz.func105,Tryz.ntmps105
  go_wp2_with (at_builtin;refine wpList_appR boolE rfl (.tmp 5) (.tmp 6) _ rfl rfl _ w.heap.size (by simp) (some ⟨w.heap.size,0,none⟩) 0 0 [] rfl (.inl ⟨rfl,SR.nil⟩) (some ad) c l.length l rfl (HA.out.ext zbl) (by simp;omega) rfl rfl ?_;intro A' c' w1 hc1 hb1 hm1)
  go_ret;exact⟨A',c',rfl,⟨hc1,hm1 (by simp)⟩,zbl⟩
theorem ClnW_any(A:Option Addr)(c:Nat)(l:List Wr)(w:World)(ha:SR wrE w A l)(la:l.length≤1000):Calls Tryz.prog 106 #[.slice A l.length c] w (ClnPost wrE l w):=by
 have he:=fun (W:World) a n c n' c'=>Lib.run_eql_slice_nil (P:=Tryz.prog) W 26 106 a n c n' c' Tryz.underlying26
 cases A with
 | none=>
  obtain rfl:l=[]:=by
   cases l with
   | nil=>rfl
   | cons a t=>obtain⟨b,off,e,_⟩:=ha (SR.len_pos (by simp));cases e
  go_enter Tryz.func106,Tryz.ntmps106
  go_wp2
  go_ret;exact⟨none,0,rfl,⟨.inl ⟨rfl,SR.nil⟩,.inl rfl⟩,Below.refl _ _⟩
 | some ad=>
  have HA:=Lib.hid ha;clear ha
  go_enter Tryz.func106,Tryz.ntmps106
  go_wp2_with (at_builtin;refine wpList_appR wrE rfl (.tmp 5) (.tmp 6) _ rfl rfl _ w.heap.size (by simp) (some ⟨w.heap.size,0,none⟩) 0 0 [] rfl (.inl ⟨rfl,SR.nil⟩) (some ad) c l.length l rfl (HA.out.ext zbl) (by simp;omega) rfl rfl ?_;intro A' c' w1 hc1 hb1 hm1)
  go_ret;exact⟨A',c',rfl,⟨hc1,hm1 (by simp)⟩,zbl⟩
theorem ClnR_any(A:Option Addr)(c:Nat)(l:List Wr)(w:World)(ha:SR rdE w A l)(la:l.length≤1000):Calls Tryz.prog 107 #[.slice A l.length c] w (ClnPost rdE l w):=by
 have he:=fun (W:World) a n c n' c'=>Lib.run_eql_slice_nil (P:=Tryz.prog) W 27 100 a n c n' c' Tryz.underlying27
 cases A with
 | none=>
  obtain rfl:l=[]:=by
   cases l with
   | nil=>rfl
   | cons a t=>obtain⟨b,off,e,_⟩:=ha (SR.len_pos (by simp));cases e
  go_enter Tryz.func107,Tryz.ntmps107
  go_wp2
  go_ret;exact⟨none,0,rfl,⟨.inl ⟨rfl,SR.nil⟩,.inl rfl⟩,Below.refl _ _⟩
 | some ad=>
  have HA:=Lib.hid ha;clear ha
  go_enter Tryz.func107,Tryz.ntmps107
  go_wp2_with (at_builtin;refine wpList_appR rdE rfl (.tmp 5) (.tmp 6) _ rfl rfl _ w.heap.size (by simp) (some ⟨w.heap.size,0,none⟩) 0 0 [] rfl (.inl ⟨rfl,SR.nil⟩) (some ad) c l.length l rfl (HA.out.ext zbl) (by simp;omega) rfl rfl ?_;intro A' c' w1 hc1 hb1 hm1)
  go_ret;exact⟨A',c',rfl,⟨hc1,hm1 (by simp)⟩,zbl⟩
theorem ClnC_any(A:Option Addr)(c:Nat)(l:List Ct)(w:World)(ha:SR ctE w A l)(la:l.length≤1000):Calls Tryz.prog 108 #[.slice A l.length c] w (ClnPost ctE l w):=by
 have he:=fun (W:World) a n c n' c'=>Lib.run_eql_slice_nil (P:=Tryz.prog) W 28 38 a n c n' c' Tryz.underlying28
 cases A with
 | none=>
  obtain rfl:l=[]:=by
   cases l with
   | nil=>rfl
   | cons a t=>obtain⟨b,off,e,_⟩:=ha (SR.len_pos (by simp));cases e
  go_enter Tryz.func108,Tryz.ntmps108
  go_wp2
  go_ret;exact⟨none,0,rfl,⟨.inl ⟨rfl,SR.nil⟩,.inl rfl⟩,Below.refl _ _⟩
 | some ad=>
  have HA:=Lib.hid ha;clear ha
  go_enter Tryz.func108,Tryz.ntmps108
  go_wp2_with (at_builtin;refine wpList_appR ctE rfl (.tmp 5) (.tmp 6) _ rfl rfl _ w.heap.size (by simp) (some ⟨w.heap.size,0,none⟩) 0 0 [] rfl (.inl ⟨rfl,SR.nil⟩) (some ad) c l.length l rfl (HA.out.ext zbl) (by simp;omega) rfl rfl ?_;intro A' c' w1 hc1 hb1 hm1)
  go_ret;exact⟨A',c',rfl,⟨hc1,hm1 (by simp)⟩,zbl⟩
theorem ClnJ_any(A:Option Addr)(c:Nat)(l:List Jb)(w:World)(ha:SR jbE w A l)(la:l.length≤1000):Calls Tryz.prog 109 #[.slice A l.length c] w (ClnPost jbE l w):=by
 have he:=fun (W:World) a n c n' c'=>Lib.run_eql_slice_nil (P:=Tryz.prog) W 29 115 a n c n' c' Tryz.underlying29
 cases A with
 | none=>
  obtain rfl:l=[]:=by
   cases l with
   | nil=>rfl
   | cons a t=>obtain⟨b,off,e,_⟩:=ha (SR.len_pos (by simp));cases e
  go_enter Tryz.func109,Tryz.ntmps109
  go_wp2
  go_ret;exact⟨none,0,rfl,⟨.inl ⟨rfl,SR.nil⟩,.inl rfl⟩,Below.refl _ _⟩
 | some ad=>
  have HA:=Lib.hid ha;clear ha
  go_enter Tryz.func109,Tryz.ntmps109
  go_wp2_with (at_builtin;refine wpList_appR jbE rfl (.tmp 5) (.tmp 6) _ rfl rfl _ w.heap.size (by simp) (some ⟨w.heap.size,0,none⟩) 0 0 [] rfl (.inl ⟨rfl,SR.nil⟩) (some ad) c l.length l rfl (HA.out.ext zbl) (by simp;omega) rfl rfl ?_;intro A' c' w1 hc1 hb1 hm1)
  go_ret;exact⟨A',c',rfl,⟨hc1,hm1 (by simp)⟩,zbl⟩
theorem ClnU_any(A:Option Addr)(c:Nat)(l:List Nat)(w:World)(ha:SR wdE w A l)(la:l.length≤1000):Calls Tryz.prog 190 #[.slice A l.length c] w (ClnPost wdE l w):=by
 have he:=fun (W:World) a n c n' c'=>Lib.run_eql_slice_nil (P:=Tryz.prog) W 201 36 a n c n' c' Tryz.underlying201
 cases A with
 | none=>
  obtain rfl:l=[]:=by
   cases l with
   | nil=>rfl
   | cons a t=>obtain⟨b,off,e,_⟩:=ha (SR.len_pos (by simp));cases e
  go_enter Tryz.func190,Tryz.ntmps190
  go_wp2
  go_ret;exact⟨none,0,rfl,⟨.inl ⟨rfl,SR.nil⟩,.inl rfl⟩,Below.refl _ _⟩
 | some ad=>
  have HA:=Lib.hid ha;clear ha
  go_enter Tryz.func190,Tryz.ntmps190
  go_wp2_with (at_builtin;refine wpList_appR wdE rfl (.tmp 5) (.tmp 6) _ rfl rfl _ w.heap.size (by simp) (some ⟨w.heap.size,0,none⟩) 0 0 [] rfl (.inl ⟨rfl,SR.nil⟩) (some ad) c l.length l rfl (HA.out.ext zbl) (by simp;omega) rfl rfl ?_;intro A' c' w1 hc1 hb1 hm1)
  go_ret;exact⟨A',c',rfl,⟨hc1,hm1 (by simp)⟩,zbl⟩
def ClnF{α:Type}(E:Elt Tryz.prog α)(l:List α)(n:Nat)(v:Value)(lo hi:Nat)(w:World):Prop:=∃ A c,v=.slice A n c∧OwnE E w lo A c l
theorem ClnF.lasts{α:Type}(E:Elt Tryz.prog α)(l:List α)(n:Nat):(Fk.has (ClnF E l n)).lasts:=fun _ _ _ _ _ ⟨A,c,e,h⟩ hb=>⟨A,c,e,h.ext hb⟩
def VarN(t:TypeId)(l:List Value)(v:Value)(lo hi:Nat)(w:World):Prop:=∃ b,v=.pointer (some ⟨b,0,none⟩)∧Blk w b t l.toArray∧lo≤b∧b<hi
theorem VarN.lasts(t:TypeId)(l:List Value):(Fk.has (VarN t l)).lasts:=fun _ _ _ _ _ ⟨b,e,h,h1,h2⟩ hb=>⟨b,e,h.below_ hb h.lt,h1,h2⟩
theorem OwnE.one{w:World}{base:Nat}{A:Option Addr}{c x:Nat}(h:OwnE wdE w base A c [x]):∃ g cur,A=some ⟨g,0,none⟩∧Blk w g 36 cur∧cur[0]? = some (.int .u64 (x:Int))∧base≤g:=by
 rcases h.own with h | h
 ·cases h
 ·have hsr:=h.sr.2
  obtain⟨_,⟨e,hn⟩ | ⟨g,cap,cur,e,hg,hb,_⟩⟩:=h
  ·cases hn
  ·injection e with e
   subst e;refine⟨g,cur,rfl,hb,?_,hg⟩;obtain⟨b,off,y,e,_,hy,hc⟩:=hsr.at_ (k:=0) (by simp);obtain rfl:x=y:=by simpa using hy
   injection e with e
   injection e with e1 e2
   subst e1 e2;have h2:=Blk.cell_ (w:=w) (b:=g) hb 0;have:=hc 0 (.int .u64 (x:Int)) rfl;rw[←h2];simpa using this
theorem bMask1_any(d:Nat)(w:World)(h:d<32):Calls Tryz.prog 191 #[.int .i64 0,.int .i64 d,.int .i64 ((d:Int)+1)] w fun e w'=>e=.returned (.int .u64 ((2:Int) ^ d))∧w=w':=by
 have:=bMask_any d (d+1) w (by omega) (by omega);rw[mskN_one (by omega)] at this;simpa using this
theorem Blk.ne_{w:World}{b b':Nat}{t t':TypeId}{cs cs':Array Value}(h:Blk w b t cs)(h':Blk w b' t' cs')(hne:t≠t'):b≠b':=by
 rintro rfl;unfold Blk at h h';rw[h] at h';injection h' with h'
 injection h' with _ h'
 exact hne h'
theorem bPut_any(b off c:Nat)(n x d:Nat)(w:World)(h1:1≤n)(h2:n≤32)(hx:x<2 ^ n)(hd:d<n)(hc:w.cell? ⟨b,off,none⟩=some (.int .u64 x))(hbl:b<w.heap.size) :
  Calls Tryz.prog 169 #[.agg #[.int .i64 n,.slice (some ⟨b,off,none⟩) 1 c],.int .i64 d,.int .i64 ((d:Int)+1),.bool true] w (BiPost n (x ||| 2 ^ d) w):=by
 have HX:Hid (SR wdE w (some ⟨b,off,none⟩) [x]):=fun _=>⟨b,off,rfl,hbl,fun j u hu=>by
  obtain⟨hj,_⟩:=List.getElem?_eq_some_iff.1 hu
  obtain rfl:j=0:=by simpa [wdE,Elt.flat] using hj
  have:u=.int .u64 x:=by simpa [wdE,Elt.flat] using hu.symm
  rw[this];simpa using hc⟩
 have HC:=Lib.hid hc;have g1:¬ (d:Int)<0:=by omega
 have g2:¬ (d:Int)>(d:Int)+1:=by omega
 have g3:¬ (d:Int)+1>n:=by omega
 clear hc
 go_enter Tryz.func169,Tryz.ntmps169
 go_wp2_with fail;refine (bCheck_any b off c n x _ h1 h2 hx (cell_keep (((Below.refl _ w).alloc (Nat.le_refl _) _).alloc (by simp) _) HC.out hbl) (by simp;omega)).mono ?_;rintro e w1 ⟨rfl,hb1⟩
 have kB_1:Blk w1 w.heap.size 203 #[.int .i64 n,.slice (some ⟨b,off,none⟩) 1 c]:=by refine Blk.below_ ?_ hb1 ?_ <;> first | exact Blk.alloc_ (Blk.new_ rfl rfl) _ | (simp;omega) | simp
 have kT_1:Blk w1 (w.heap.size+1) 203 #[.int .i64 0,.slice none 0 0]:=by refine Blk.below_ ?_ hb1 ?_ <;> first | exact Blk.new_ (by simp) rfl | simp
 obtain⟨b0,-⟩:=zc2 kB_1;have B1:Below w.heap.size w w1:=by refine Below.trans ?_ (hb1.mono (by simp;omega));exact zbl
 have zT:w.heap.size+1<w1.heap.size:=kT_1.lt;clear hb1;go_wp2_with fail;refine zrg [0,1,0,1,2,0,2,3] [[],[],[],[],[],[4],[],[]] [.is ?_,.kn ?_,.is ?_,.kn ?_,.has (ClnF wdE [x] 1),.fn [4] (fun l=>.agg #[.int .i64 n,fst_ l]),.has (VarN 203 [.int .i64 0,.slice none 0 0]),.late] [7] (lts_is (lts_kn (lts_is (lts_kn (lts_has (ClnF.lasts wdE [x] 1) (lts_fn (lts_has (VarN.lasts 203 [.int .i64 0,.slice none 0 0]) (lts_late lts_nil)))))))) (fun W0 hb0 hz0 => ?_)
 rotate_left 4
 have kW:=kB_1.below_ hb0 kB_1.lt;have zW:=kW.lt;obtain⟨p0,p1⟩:=zc2 kW;refine zqp ?_;refine zqT (fun w hbw hd => ?_) ?_
 ·have q0:=cell_keep hbw p0 zW
  exact zgs
 refine zqp ?_;refine zqT (fun w hbw hd => ?_) ?_
 ·have q1:=cell_keep hbw p1 zW
  exact zgs
 refine zqh (fun w hbw hd K Q' hK => ?_) (fun vpu4 => ?_)
 ·clear hd
  go_simp;refine (ClnU_any (some ⟨b,off,none⟩) c [x] _ (HX.out.ext (Below.trans B1 ((hb0.mono (by omega)).trans (hbw.mono (by omega))))) (by simp)).mono ?_;rintro e y ⟨A',c',rfl,ho,hy⟩;go_wp2_with fail;exact hK.out (.slice A' 1 c') _ _ zpt zbm ⟨A',c',rfl,ho⟩
 refine zqF (.agg #[.int .i64 n,vpu4]) (fun w0 hd w => ?_) ?_
 ·obtain⟨_,_,A',d',rfl,_⟩:∃ lo hi,ClnF wdE [x] 1 vpu4 lo hi w0:=hd 4 _ _ (by kernel_rfl) rfl rfl
  exact zsr
 refine zqh (fun w hbw hd K Q' hK => ?_) (fun vpu6 => ?_)
 ·clear hd
  go_simp;exact hK.out (.pointer (some ⟨w.heap.size,0,none⟩)) _ _ zpt zbm ⟨_,rfl,Blk.new_ rfl rfl,Nat.le_refl _,by simp⟩
 refine zql ?_;refine chn_end (fun wz lo hi hbz hd hR => ?_);obtain⟨A1,d1,rfl,hO⟩:ClnF wdE [x] 1 vpu4 (lo 4) (hi 4) wz:=hd 4 _ _ rfl rfl;obtain⟨B,rfl,kz,hlo,hhi⟩:VarN 203 [.int .i64 0,.slice none 0 0] vpu6 (lo 6) (hi 6) wz:=hd 6 _ _ rfl rfl;have n6:=(hR.2 6 _ rfl);have n4:=(hR.2 4 _ rfl).1;have hbwz:Below w.heap.size w wz:=B1.trans ((hb0.trans (hbz.mono hb0.size)).mono (by omega));have klz:=kz.lt;have zB:w1.heap.size≤B:=by have:=hb0.size;omega
 clear hd p0 p1;have y0:=zc kz 0;have y1:=zc kz 1;obtain⟨yf0,yf1,-⟩:=zf kz;refine late_one (by simp only[zy5,zy6,zy7];rfl) (fun K Q' hK => ?_);go_simp;refine hK.out _ ?_;clear hK K Q';obtain⟨g,cur,rfl,kG,hcur,hgb⟩:=hO.one;have hgB:g≠B:=kG.ne_ kz (by decide);obtain⟨V,hV⟩:∃ V,(wz.setCell ⟨B,0,none⟩ (.int .i64 n)).setCell ⟨B,1,none⟩ (.slice (some ⟨g,0,none⟩) 1 d1)=V:=⟨_,rfl⟩;have kB:Blk V B 203 #[.int .i64 n,.slice (some ⟨g,0,none⟩) 1 d1]:=by rw[←hV];exact(kz.set_ 0 _).set_ 1 _
 have kG1:Blk V g 36 cur:=by rw[←hV];exact(kG.far_ (by exact hgB) _).far_ (by exact hgB) _
 have zz:w.heap.size+1<wz.heap.size:=Nat.lt_of_lt_of_le zT (by have:=hb0.size;have:=hbz.size;omega);have kT1:Blk V (w.heap.size+1) 203 #[.int .i64 0,.slice none 0 0]:=by rw[←hV];exact((kT_1.below_ (hb0.trans (hbz.mono hb0.size)) kT_1.lt).far_ (by show w.heap.size+1≠B;omega) _).far_ (by show w.heap.size+1≠B;omega) _
 have BV:Below w.heap.size w V:=by rw[←hV];exact(hbwz.setCell (p:=⟨B,0,none⟩) (by show w.heap.size≤B;omega) _).setCell (p:=⟨B,1,none⟩) (by show w.heap.size≤B;omega) _
 obtain⟨y0,y1⟩:=zc2 kB;have hg2:w.heap.size+2≤g:=by omega
 clear hR;rw[hV];clear hV;go_wp2_with fail
 go_loopw [42] (fun i wr=>∃ (k:Int) (v:Nat) (cur:Array Value),(k=0∧v=x∨k=1∧v=x ||| 2 ^ d)∧i=.int .i64 k∧Blk wr B 203 #[.int .i64 n,.slice (some ⟨g,0,none⟩) 1 d1]∧Blk wr g 36 cur∧cur[0]? = some (.int .u64 (v:Int))∧Blk wr (w.heap.size+1) 203 #[.int .i64 0,.slice none 0 0]∧Below w.heap.size w wr) (fun i _=>1 - (intOf i).toNat)
 case atStart=>exact⟨0,x,cur,.inl ⟨rfl,rfl⟩,rfl,kB,kG1,hcur,kT1,BV⟩
 case round=>
  obtain⟨k,v,cu,hk,rfl,kB2,kG2,hcu,kT2,hb⟩:=hrel;clear hcur kG kG1 kB kT1 y0 y1
  rcases hk with ⟨rfl,rfl⟩ | ⟨rfl,rfl⟩
  ·skip
   have hx64:v<18446744073709551616:=Nat.lt_of_lt_of_le hx (Nat.pow_le_pow_right (show 2>0 by decide) (show n≤64 by omega));have hd64:2 ^ d<18446744073709551616:=Nat.pow_lt_pow_right (a:=2) (n:=64) (by decide) (by omega)
   have hbo:bits BinOp.or IntKind.u64 (v:Int) ((2:Int) ^ d)=((v ||| 2 ^ d:Nat):Int):=by
    rw[show (2:Int) ^ d=((2 ^ d:Nat):Int) by simp];exact bits_or_u64_nat _ _ hx64 hd64
   have c0:wr.cell? ⟨g,0,none⟩=some (.int .u64 v):=by rw[kG2.cell_ 0,hcu]
   have cf:=kG2.frozen_ 0;clear hx64 hd64;go_wp2_with fail;refine zrg [0,1,0,0,1,0,0,0,1,0,0,3] [[],[],[],[],[],[],[],[],[],[],[],[]] [.is ?_,.kn ?_,.is ?_,.is ?_,.kn ?_,.is ?_,.is ?_,.is ?_,.kn (.int .u64 ((2:Int) ^ d)),.is (.int .u64 ((v ||| 2 ^ d:Nat):Int)),.is ?_,.late] [11] (lts_is (lts_kn (lts_is (lts_is (lts_kn (lts_is (lts_is (lts_is (lts_kn (lts_is (lts_is (lts_late lts_nil)))))))))))) (fun W0 hb0 hz0 => ?_)
   rotate_left 9
   have kW:=kB2.below_ hb0 kB2.lt;have zW:=kW.lt;have zG:=Nat.lt_of_lt_of_le kG2.lt hb0.size;have e0:=cell_keep hb0 c0 kG2.lt;have p0:=zc kW 0;have p1:=zc kW 1;refine zqp ?_;refine zqT (fun w hbw hd => ?_) ?_
   ·have q1:=cell_keep hbw p1 zW
    exact zgs
   refine zqp ?_;refine zqp ?_;refine zqT (fun w hbw hd => ?_) ?_
   ·have q1:=cell_keep hbw e0 zG
    exact zgs
   refine zqp ?_;refine zqp ?_;refine zqp ?_;refine zqc (fun w hbw hd K Q' hK => ?_) ?_
   ·clear hd
    go_simp;refine (bMask1_any d _ (by omega)).mono ?_;rintro e y ⟨rfl,rfl⟩;go_wp2_with fail;exact hK.out _ _ _ zpt zbm rfl
   refine zqP (fun w => ?_) ?_
   ·go_simp
    first | done | rfl
   refine zqp ?_;refine zql ?_;refine chn_end (fun wz lo hi hbz hd hR => ?_);have e1:=cell_keep hbz e0 zG;have kGz:=kG2.below_ (hb0.trans (hbz.mono hb0.size)) kG2.lt;have ef:=kGz.frozen_ 0;clear hd hR p0 p1;refine late_one (by simp only[zy5,zy6,zy7];rfl) (fun K Q' hK => ?_);go_simp;refine hK.out _ ?_;clear hK K Q';go_wp2_with fail;have hwz:=hb0.trans (hbz.mono hb0.size);refine⟨⟨1,_,_,.inr ⟨rfl,rfl⟩,by go_num,(kB2.below_ hwz kB2.lt).far_ (by exact fun e=>hgB e.symm) _,kGz.set_ 0 _,?_,(kT2.below_ hwz kT2.lt).far_ (by show w.heap.size+1≠g;omega) _,?_⟩,by simp[intOf]⟩
   ·have:0<cu.size:=(Array.getElem?_eq_some_iff.1 hcu).1
    simp[this]
   ·exact(hb.trans (hwz.mono hb.size)).setCell (p:=⟨g,0,none⟩) (by show w.heap.size≤g;omega) _
  ·skip
   have r0:=zc kB2 0;have r1:=zc kB2 1;have t0:=zc kT2 0;have t1:=zc kT2 1;obtain⟨tf0,tf1,-⟩:=zf kT2;have zw:=kT2.lt;go_wp2_with fail;obtain⟨W,hW⟩:∃ W,(wr.setCell ⟨w.heap.size+1,0,none⟩ (.int .i64 n)).setCell ⟨w.heap.size+1,1,none⟩ (.slice (some ⟨g,0,none⟩) 1 d1)=W:=⟨_,rfl⟩;have kW:Blk W (w.heap.size+1) 203 #[.int .i64 n,.slice (some ⟨g,0,none⟩) 1 d1]:=by rw[←hW];exact((kT2.set_ 0 _).set_ 1 _)
   have bW:Below w.heap.size w W:=by rw[←hW];exact zbl
   have kG3:Blk W g 36 cu:=by rw[←hW];exact(kG2.far_ (by show g≠w.heap.size+1;omega) _).far_ (by show g≠w.heap.size+1;omega) _
   rw[hW];clear hW r0 r1 t0 t1;refine bodyPost_ret (by simp[results,Tryz.results169,go_sem,zc2 kW] <;> rfl) rfl ?_;refine⟨g,0,d1,rfl,?_,⟨by omega,kG3.lt⟩,bW⟩;rw[kG3.cell_ 0,hcu]
def tzRho:Go.Shelf.Ren where
 f:=fun n=>if n=29 then 192 else n
 t:=fun n=>if n=22 then 36 else if n=25 then 214 else if n=54 then 239 else n
 g:=fun _=>0
theorem tzLays:Lays7.n29 Tryz.prog tzRho where
 mixed:=by kernel_rfl
 f29:=by kernel_rfl
 t0:=by kernel_rfl
 a0:=fun _=>by kernel_rfl
 z0:=fun _=>by kernel_rfl
 v0:=fun _=>by kernel_rfl
 i0:=by kernel_rfl
 t3:=by kernel_rfl
 a3:=fun _=>by kernel_rfl
 z3:=fun _=>by kernel_rfl
 v3:=fun _=>by kernel_rfl
 i3:=by kernel_rfl
 t4:=by kernel_rfl
 a4:=fun _=>by kernel_rfl
 z4:=fun _=>by kernel_rfl
 v4:=fun _=>by kernel_rfl
 i4:=by kernel_rfl
 t5:=by kernel_rfl
 a5:=fun _=>by kernel_rfl
 z5:=fun _=>by kernel_rfl
 v5:=fun _=>by kernel_rfl
 i5:=by kernel_rfl
 t22:=by kernel_rfl
 a22:=fun _=>by kernel_rfl
 z22:=fun _=>by kernel_rfl
 v22:=fun _=>by kernel_rfl
 i22:=by kernel_rfl
 t25:=by kernel_rfl
 a25:=fun _=>by kernel_rfl
 z25:=fun _=>by kernel_rfl
 v25:=fun _=>by kernel_rfl
 i25:=by kernel_rfl
 t54:=by kernel_rfl
 a54:=fun _=>by kernel_rfl
 z54:=fun _=>by kernel_rfl
 g1:=by kernel_rfl
def TZ(w:World):Prop:=TabAt 0 Lib.deBruijn64tab w
theorem TZ.ext{w w':World}(h:TZ w)(h0:0<w.heap.size)(hb:Below w.heap.size w w'):TZ w':=fun j hj=>cell_keep hb (h j hj) h0
theorem tz64_any(x:Nat)(hx:x<18446744073709551616)(w:World)(hT:TZ w) :
  Calls Tryz.prog 192 #[.int .u64 x] w fun e w'=>e=.returned (.int .i64 (Lib.ctz 64 x))∧w=w':=
 (Any7.bits_TrailingZeros64 tzLays x hx w (fun _=>hT)).mono fun e w' h=>⟨h.1,h.2.symm⟩
theorem ctz_low{x:Nat}(h0:x≠0)(h:x<2 ^ 64):x.testBit (Lib.ctz 64 x)=true∧∀ j,j<Lib.ctz 64 x→x.testBit j=false:=by
 have e:Lib.ctz 64 x=Lib.ctzFrom 64 x:=by unfold Lib.ctz;rw[if_neg h0]
 obtain⟨m,hm,hk⟩:=Lib.ctzFrom_spec 64 x (by omega) h;rw[e]
 generalize Lib.ctzFrom 64 x=k at hm hk ⊢
 subst hm
 constructor
 ·rw[Nat.testBit_two_pow_mul]
  simp
 ·intro j hj
  rw[Nat.testBit_two_pow_mul];simp;omega
theorem TZ.pos{w:World}(h:TZ w):0<w.heap.size:=by
 have:=h 0 (by decide)
 by_cases hp:0<w.heap.size
 ·exact hp
 ·unfold World.cell? at this
  rw[Array.getElem?_eq_none (by omega)] at this;simp at this
def outN(n x a:Nat):Nat:=(18446744073709551615 ^^^ x) &&& mskN a n
theorem outN_bit{n x a:Nat}(hn:n≤64)(j:Nat):(outN n x a).testBit j=(decide (a≤j∧j<n) && !x.testBit j):=by
 unfold outN;rw[Nat.testBit_and,mskN_bit hn,Nat.testBit_xor,show (18446744073709551615:Nat)=2 ^ 64 - 1 from rfl,Nat.testBit_two_pow_sub_one]
 by_cases hj:j<64
 ·simp[hj,Bool.and_comm]
 ·have:¬ j<n:=by omega
  simp[this]
theorem outN_lt{n x a:Nat}(hn:n≤64):outN n x a<18446744073709551616:=Nat.lt_of_le_of_lt Nat.and_le_right (Nat.lt_of_lt_of_le (mskN_lt hn) (Nat.pow_le_pow_right (show 2>0 by decide) hn))
theorem xor_ones(x:Nat)(h:x<18446744073709551616):18446744073709551615 ^^^ x=18446744073709551615 - x:=by
 refine Nat.eq_of_testBit_eq fun j => ?_
 rw[Nat.testBit_xor,show (18446744073709551615:Nat)=2 ^ 64 - 1 from rfl,Nat.testBit_two_pow_sub_one,show 2 ^ 64 - 1 - x=2 ^ 64 - (x+1) by omega,Nat.testBit_two_pow_sub_succ (by omega)]
 by_cases hj:j<64
 ·simp[hj]
 ·have:x.testBit j=false:=Nat.testBit_lt_two_pow (Nat.lt_of_lt_of_le h (Nat.pow_le_pow_right (show 2>0 by decide) (show 64≤j by omega)))
  simp[hj,this]
theorem bits_xor_u64_nat(a b:Nat)(ha:a<18446744073709551616)(hb:b<18446744073709551616):bits .xor .u64 (a:Int) (b:Int)=((a ^^^ b:Nat):Int):=by
 have hx:a ^^^ b<2 ^ 64:=Nat.xor_lt_two_pow (by omega) (by omega)
 have h1:(BitVec.ofInt 64 (a:Int)).toNat=a:=by
  rw[BitVec.ofInt_natCast,BitVec.toNat_ofNat];exact Nat.mod_eq_of_lt (by omega)
 have h2:(BitVec.ofInt 64 (b:Int)).toNat=b:=by
  rw[BitVec.ofInt_natCast,BitVec.toNat_ofNat];exact Nat.mod_eq_of_lt (by omega)
 show IntKind.u64.wrap ((BitVec.ofInt 64 (a:Int) ^^^ BitVec.ofInt 64 (b:Int)).toNat:Int)=_;rw[BitVec.toNat_xor,h1,h2,IntKind.wrap_u64];omega
theorem ctz_wrap{m:Nat}(h0:m≠0)(h:m<18446744073709551616):wrap64 ((Lib.ctz 64 m:Nat):Int)=(Lib.ctz 64 m:Nat):=by
 have:=(Lib.lowest_bit 64 m h0 h).2;unfold wrap64;omega
theorem bNext_any(b off c:Nat)(n x a:Nat)(w:World)(h1:1≤n)(h2:n≤32)(hx:x<2 ^ n)(ha:a≤n)(hc:w.cell? ⟨b,off,none⟩=some (.int .u64 x))(hbl:b<w.heap.size)(hz:TZ w) :
  Calls Tryz.prog 170 #[.agg #[.int .i64 n,.slice (some ⟨b,off,none⟩) 1 c],.int .i64 a,.bool false] w fun e w'=>e=.returned (.tuple (if outN n x a=0 then #[.int .i64 0,.int .i64 6] else #[.int .i64 (Lib.ctz 64 (outN n x a)),.int .i64 0]))∧Below w.heap.size w w':=by
 have HC:=Lib.hid hc;have HTZ:=Lib.hid hz;have g1:¬ (a:Int)<0:=by omega
 have g2:¬ (n:Int)<a:=by omega
 have g3:¬ n<a:=by omega
 have hx64:x<18446744073709551616:=Nat.lt_of_lt_of_le hx (Nat.pow_le_pow_right (show 2>0 by decide) (show n≤64 by omega));have hm64:mskN a n<18446744073709551616:=Nat.lt_of_lt_of_le (mskN_lt (by omega)) (Nat.pow_le_pow_right (show 2>0 by decide) (show n≤64 by omega));obtain⟨m,hm⟩:∃ m,outN n x a=m:=⟨_,rfl⟩;have hm2:m<18446744073709551616:=by rw[←hm];exact outN_lt (by omega)
 have hB:bits BinOp.and IntKind.u64 (bits BinOp.xor IntKind.u64 IntKind.u64.max (x:Int)) ((mskN a n:Nat):Int)=(m:Int):=by
  rw[show IntKind.u64.max=((18446744073709551615:Nat):Int) by decide,bits_xor_u64_nat _ _ (by decide) hx64,bits_and_u64_nat _ _ (by rw[xor_ones x hx64];omega) hm64,←hm];rfl
 rw[hm];clear hc hz hx64 hm64 hm
 go_enter Tryz.func170,Tryz.ntmps170
 go_wp2_with fail;refine (bCheck_any b off c n x _ h1 h2 hx (cell_keep ((Below.refl _ w).alloc (Nat.le_refl _) _) HC.out hbl) (by simp;omega)).mono ?_;rintro e w1 ⟨rfl,hb1⟩
 have kB_1:Blk w1 w.heap.size 203 #[.int .i64 n,.slice (some ⟨b,off,none⟩) 1 c]:=by refine Blk.below_ ?_ hb1 ?_ <;> first | exact Blk.new_ rfl rfl | simp
 have B1:Below w.heap.size w w1:=by refine Below.trans ?_ (hb1.mono (by simp));exact zbl
 have zB:=kB_1.lt;have zb1:b<w1.heap.size:=by have:=B1.size;omega
 have c1:=cell_keep B1 HC.out hbl;obtain⟨q0,q1⟩:=zc2 kB_1;clear hb1;go_wp2_with fail
 by_cases m0:m=0
 ·have hm0:((m:Int) != 0)=false:=by simpa using m0
  have HM0:=Lib.hid m0;clear m0
  go_loopw [27] (fun i wr=>∃ k:Int,(k=0∨k=1)∧i=.int .i64 k∧wr=w1) (fun i _=>1 - (intOf i).toNat)
  case atStart=>exact⟨0,.inl rfl,rfl,rfl⟩
  case round=>
   obtain⟨k,hk,rfl,rfl⟩:=hrel
   rcases hk with rfl | rfl
   ·go_wp2_with fail
    refine (bMask_any a n _ (by omega) (by omega)).mono ?_;rintro e w2 ⟨rfl,rfl⟩;go_wp2_with fail
    go_roundw
    case rel=>exact⟨1,.inr rfl,by simp,by simp⟩
    case measure=>simp[intOf]
   ·go_wp2_with fail
    refine bodyPost_ret (by simp[results,Tryz.results170,go_sem] <;> rfl) rfl ?_;exact⟨by simp[HM0.out],B1⟩
 ·have HM0:=Lib.hid m0
  have hm0:((m:Int) != 0)=true:=by simpa using m0
  go_loopw [27] (fun i wr=>∃ k:Int,(k=0∧0≤k)∧i=.int .i64 k∧wr=w1) (fun i _=>1 - (intOf i).toNat)
  case atStart=>exact⟨0,by simp,by simp,by simp⟩
  case round=>
   obtain⟨k,⟨rfl,_⟩,rfl,rfl⟩:=hrel;go_wp2_with fail;refine (bMask_any a n _ (by omega) (by omega)).mono ?_;rintro e w2 ⟨rfl,rfl⟩;go_wp2_with fail;refine (tz64_any m hm2 _ (HTZ.out.ext HTZ.out.pos B1)).mono ?_;rintro e w2 ⟨rfl,rfl⟩;go_wp2_with fail;refine bodyPost_ret (by simp[results,Tryz.results170,go_sem,ctz_wrap HM0.out hm2] <;> rfl) rfl ?_;exact⟨by simp[m0],B1⟩
structure OkT (s:Sts):Prop where
 len:1≤s.refs.length∧s.refs.length≤256
 blen:s.busy.length=s.refs.length
 range:∀ r ∈ s.refs,0≤r∧r≤512
theorem chkT_ok{s:Sts}:(chkT s).1=0↔OkT s:=by
 unfold chkT
 by_cases h1:s.refs.length<1∨256<s.refs.length
 ·rw[if_pos h1]
  constructor
  ·intro h;simp at h
  ·intro h;have:=h.len;omega
 ·rw[if_neg h1]
  by_cases h2:s.busy.length≠s.refs.length
  ·rw[if_pos h2]
   constructor
   ·intro h;simp at h
   ·intro h;exact absurd h.blen h2
  ·rw[if_neg h2]
   cases hf:s.refs.findIdx? (fun r=>decide (r<0∨512<r)) with
   | none=>
    simp only[true_iff];rw[List.findIdx?_eq_none_iff] at hf;refine⟨by omega,by omega,fun r hr => ?_⟩;have:=hf r hr;simp at this;exact this
   | some i=>
    constructor
    ·intro h;simp at h
    ·intro h
     obtain⟨hi,hp,_⟩:=List.findIdx?_eq_some_iff_getElem.1 hf;have:=h.range _ (List.getElem_mem hi);simp at hp;omega
theorem chkT_zero{s:Sts}(h:OkT s):chkT s=(0,0):=by
 have h1:=chkT_ok.2 h;unfold chkT at h1 ⊢;rw[if_neg (by have:=h.len;omega),if_neg (by have:=h.blen;omega)] at h1 ⊢
 cases hf:s.refs.findIdx? (fun r=>decide (r<0∨512<r)) with
 | none=>rfl
 | some i=>rw[hf] at h1;simp at h1
structure OkD (d:Dsk):Prop where
 cells:1≤d.cells.length∧d.cells.length≤256
 room:1≤d.room∧d.room≤32
 few:(d.jobs.length:Int)≤d.room
 inr:∀ j ∈ d.jobs,0≤j.slot∧j.slot<d.cells.length∧0≤j.frame∧j.frame<256
 apart:d.jobs.Pairwise fun j k=>j.slot≠k.slot∧j.frame≠k.frame
 clean:∀ j ∈ d.jobs,j.wr=false→j.data=.zero
theorem hitD_no{pre:List Jb}{a b:Int}:hitD pre a b=false ↔ ∀ k ∈ pre,k.slot≠a∧k.frame≠b:=by
 unfold hitD;rw[List.any_eq_false];simp
theorem chkDG_ok{d:Dsk}:∀ (l pre:List Jb),(chkDG d pre l).1=0↔(∀ j ∈ l,0≤j.slot∧j.slot<d.cells.length∧0≤j.frame∧j.frame<256) ∧
  (l.Pairwise fun j k=>j.slot≠k.slot∧j.frame≠k.frame)∧(∀ j ∈ l,∀ k ∈ pre,k.slot≠j.slot∧k.frame≠j.frame)∧∀ j ∈ l,j.wr=false→j.data=.zero
 | [],pre=>by simp[chkDG]
 | j::l,pre=>by
  rw[chkDG]
  cases h1:inD d j.slot j.frame with
  | false=>
   simp only[Bool.not_false,if_true]
   constructor
   ·intro h;simp at h
   ·rintro ⟨h,_⟩
    have:=h j (by simp);unfold inD at h1;simp only[decide_eq_false_iff_not] at h1;omega
  | true=>
   have h1':0≤j.slot∧j.slot<d.cells.length∧0≤j.frame∧j.frame<256:=by unfold inD at h1;simpa using h1
   simp only[Bool.not_true,Bool.false_eq_true,if_false]
   cases h2:hitD pre j.slot j.frame with
   | true=>
    simp only[if_true]
    constructor
    ·intro h;simp at h
    ·rintro ⟨_,_,h,_⟩
     have:=hitD_no.2 (h j (by simp));rw[h2] at this;cases this
   | false=>
    simp only[Bool.false_eq_true,if_false];have h3:=hitD_no.1 h2
    by_cases h4:(!j.wr && !decide (j.data=Ct.zero))=true
    ·rw[if_pos h4]
     constructor
     ·intro h;simp at h
     ·rintro ⟨_,_,_,h⟩
      simp only[Bool.and_eq_true,Bool.not_eq_true',decide_eq_false_iff_not] at h4;exact absurd (h j (by simp) h4.1) h4.2
    ·rw[if_neg h4,chkDG_ok l (pre++[j])]
     have h5:j.wr=false→j.data=.zero:=by
      intro hw;simp only[hw,Bool.not_false,Bool.true_and,Bool.not_eq_true',decide_eq_false_iff_not,Decidable.not_not] at h4;exact h4
     simp only[List.mem_cons,forall_eq_or_imp,List.pairwise_cons,List.mem_append,List.not_mem_nil,or_false]
     constructor
     ·rintro ⟨a,b,c,e⟩
      exact⟨⟨h1',a⟩,⟨fun y hy=>c y hy j (.inr rfl),b⟩,⟨h3,fun y hy z hz=>c y hy z (.inl hz)⟩,h5,e⟩
     ·rintro ⟨⟨_,a⟩,⟨b,b'⟩,⟨_,c⟩,_,e⟩
      refine⟨a,b',fun y hy z hz => ?_,e⟩
      rcases hz with hz | rfl
      ·exact c y hy z hz
      ·exact b y hy
theorem chkD_ok{d:Dsk}:(chkD d).1=0↔OkD d:=by
 unfold chkD
 by_cases h1:d.cells.length<1∨256<d.cells.length∨d.room<1∨32<d.room
 ·rw[if_pos h1]
  constructor
  ·intro h;simp at h
  ·intro h;have:=h.cells;have:=h.room;omega
 ·rw[if_neg h1]
  by_cases h2:d.room<d.jobs.length
  ·rw[if_pos h2]
   constructor
   ·intro h;simp at h
   ·intro h;have:=h.few;omega
  ·rw[if_neg h2,chkDG_ok]
   constructor
   ·rintro ⟨a,b,_,e⟩
    exact⟨by omega,by omega,by omega,a,b,e⟩
   ·intro h
    exact⟨h.inr,h.apart,by simp,h.clean⟩
theorem chkDG_num{d:Dsk}:∀ (l pre:List Jb),(chkDG d pre l).1=0→(chkDG d pre l).2=0
 | [],pre=>by simp[chkDG]
 | j::l,pre=>by
  rw[chkDG]
  split
  ·simp
  ·split
   ·simp
   ·split
    ·simp
    ·exact chkDG_num l _
theorem chkD_zero{d:Dsk}(h:OkD d):chkD d=(0,0):=by
 have h1:=chkD_ok.2 h;refine Prod.ext h1 ?_;unfold chkD at h1 ⊢;rw[if_neg (by have:=h.cells;have:=h.room;omega),if_neg (by have:=h.few;omega)] at h1 ⊢;exact chkDG_num _ _ h1
theorem chkPG_of{size:Int}:∀ (l pre:List Int),(∀ d ∈ l,0≤d∧d<size)→(pre++l).Pairwise (· < ·)→chkPG size pre l=(0,0)
 | [],pre,_,_=>rfl
 | d::l,pre,h,hp=>by
  rw[chkPG,if_neg (by have:=h d (by simp);omega),if_neg,chkPG_of l (pre++[d]) (fun x hx=>h x (by simp[hx])) (by simpa using hp)];intro hq
  cases hl:pre.getLast? with
  | none=>rw[hl] at hq;simp at hq
  | some p=>
   rw[hl] at hq;simp at hq;have:=(List.pairwise_append.1 hp).2.2 p (List.mem_of_getLast? hl) d (by simp);omega
theorem chkP_zero{p:Pol}(h:OkP p):chkP p=(0,0):=by
 unfold chkP;rw[if_neg (by have:=h.size;omega)];exact chkPG_of _ _ h.range (by simpa using h.asc)
def jvs(js:List Jb)(b:Bool):List (Int × Int):=(js.filter fun j=>j.wr == b).map fun j=>(j.slot,j.frame)
def vvs(vs:List Wr):List (Int × Int):=vs.map fun v=>(v.1,v.2.1)
structure OkS (s:Swp):Prop where
 cap:1≤s.cap∧s.cap≤16
 sl:OkT s.sl
 wr:Valid s.wr
 dk:OkD s.dk
 po:OkP s.po
 len:s.sl.refs.length=s.dk.cells.length
 room:s.dk.room=s.po.size
 few:(s.wr.length:Int)≤s.cap
 mw:jvs s.dk.jobs true=vvs s.wr
 mr:jvs s.dk.jobs false=vvs s.rd
 busy:s.sl.busy=(List.range s.sl.busy.length).map (bsW s.dk.jobs)
 dlen:s.desc.length=s.dk.jobs.length
 tlen:(tknP s.po).length=s.desc.length
 tmem:∀ d ∈ tknP s.po,d ∈ s.desc
 wts:((wtW s).map (·.1)).Nodup
 wtr:∀ x ∈ wtW s,1≤x.1∧x.1≤8
 wtp:∀ x ∈ wtW s,0<refT s.sl x.2.toNat
theorem mtW_iff{js:List Jb}{b:Bool}{vs:List Wr}:mtW js b vs=true↔jvs js b=vvs vs:=by unfold mtW jvs vvs;simp
theorem agW_ok{s:Swp}:agW s=true↔(s.sl.refs.length=s.dk.cells.length∧s.dk.room=s.po.size∧(s.wr.length:Int)≤s.cap)∧jvs s.dk.jobs true=vvs s.wr∧jvs s.dk.jobs false=vvs s.rd ∧
  s.sl.busy=(List.range s.sl.busy.length).map (bsW s.dk.jobs)∧s.desc.length=s.dk.jobs.length∧(tknP s.po).length=s.desc.length∧(∀ d ∈ tknP s.po,d ∈ s.desc) ∧
  (((wtW s).map (·.1)).Nodup∧∀ x ∈ wtW s,1≤x.1∧x.1≤8)∧∀ x ∈ wtW s,0<refT s.sl x.2.toNat:=by
 unfold agW wtok;simp only[Bool.and_eq_true,decide_eq_true_eq,mtW_iff,List.all_eq_true,and_assoc]
theorem chkW_ok{s:Swp}:chkW s=0↔OkS s:=by
 unfold chkW
 by_cases h1:s.cap<1∨16<s.cap
 ·rw[if_pos h1]
  constructor
  ·intro h;simp at h
  ·intro h;have:=h.cap;omega
 ·rw[if_neg h1]
  by_cases h2:(chkT s.sl).1≠0
  ·rw[if_pos h2]
   exact⟨fun h=>absurd h h2,fun h=>absurd (chkT_ok.2 h.sl) h2⟩
  ·rw[if_neg h2]
   by_cases h3:(chkS s.wr).1≠0
   ·rw[if_pos h3]
    exact⟨fun h=>absurd h h3,fun h=>absurd (chkS_ok.2 h.wr) h3⟩
   ·rw[if_neg h3]
    by_cases h4:(chkD s.dk).1≠0
    ·rw[if_pos h4]
     exact⟨fun h=>absurd h h4,fun h=>absurd (chkD_ok.2 h.dk) h4⟩
    ·rw[if_neg h4]
     by_cases h5:(chkP s.po).1≠0
     ·rw[if_pos h5]
      refine⟨fun h=>absurd h h5,fun h=>absurd ?_ h5⟩;rw[chkP_zero h.po]
     ·rw[if_neg h5]
      simp only[ne_eq,Decidable.not_not] at h2 h3 h4 h5
      cases hag:agW s with
      | false=>
       simp only[Bool.false_eq_true,if_false]
       constructor
       ·intro h;simp at h
       ·intro h
        have:=agW_ok.2 ⟨⟨h.len,h.room,h.few⟩,h.mw,h.mr,h.busy,h.dlen,h.tlen,h.tmem,⟨h.wts,h.wtr⟩,h.wtp⟩;rw[hag] at this
        cases this
      | true=>
       simp only[if_true,true_iff];obtain⟨⟨a1,a2,a3⟩,a4,a5,a6,a7,a8,a9,⟨a10,a11⟩,a12⟩:=agW_ok.1 hag;exact⟨by omega,chkT_ok.1 h2,chkS_ok.1 h3,chkD_ok.1 h4,chkP_ok h5,a1,a2,a3,a4,a5,a6,a7,a8,a9,a10,a11,a12⟩
theorem asc_ext:∀ {l k:List Int},l.Pairwise (· < ·)→k.Pairwise (· < ·)→(∀ x,x ∈ l↔x ∈ k)→l=k
 | [],[],_,_,_=>rfl
 | [],y::k,_,_,h=>absurd ((h y).2 (by simp)) (by simp)
 | x::l,[],_,_,h=>absurd ((h x).1 (by simp)) (by simp)
 | x::l,y::k,hl,hk,h=>by
  have hl:=List.pairwise_cons.1 hl;have hk:=List.pairwise_cons.1 hk
  have e:x=y:=by
   have h1:=(h x).1 (by simp);have h2:=(h y).2 (by simp)
   rcases List.mem_cons.1 h1 with h1 | h1
   ·exact h1
   ·rcases List.mem_cons.1 h2 with h2 | h2
    ·exact h2.symm
    ·have:=hl.1 y h2;have:=hk.1 x h1;omega
  subst e;rw[asc_ext hl.2 hk.2 fun z => ?_]
  constructor
  ·intro hz
   rcases List.mem_cons.1 ((h z).1 (by simp[hz])) with e | e
   ·have:=hl.1 z hz;omega
   ·exact e
  ·intro hz
   rcases List.mem_cons.1 ((h z).2 (by simp[hz])) with e | e
   ·have:=hk.1 z hz;omega
   ·exact e
def rngI(n:Nat):List Int:=(List.range n).map fun (i:Nat)=>(i:Int)
theorem rngI_asc(n:Nat):(rngI n).Pairwise (· < ·):=by
 unfold rngI;rw[List.pairwise_map]
 exact(List.pairwise_lt_range (n:=n)).imp fun h=>by omega
theorem rngI_mem{n:Nat}{x:Int}:x ∈ rngI n↔0≤x∧x<n:=by
 unfold rngI;rw[List.mem_map]
 constructor
 ·rintro ⟨i,hi,rfl⟩;have:=List.mem_range.1 hi;omega
 ·intro h;exact⟨x.toNat,List.mem_range.2 (by omega),by omega⟩
theorem tknP_eq(p:Pol):tknP p=(rngI p.size.toNat).filter fun i=>decide (i ∉ p.free):=rfl
theorem tknP_mem{p:Pol}{x:Int}:x ∈ tknP p↔(0≤x∧x<p.size)∧x ∉ p.free:=by
 rw[tknP_eq,List.mem_filter,rngI_mem,decide_eq_true_eq]
 constructor
 ·rintro ⟨h1,h2⟩;exact⟨by omega,h2⟩
 ·rintro ⟨h1,h2⟩;exact⟨by omega,h2⟩
theorem tknP_asc(p:Pol):(tknP p).Pairwise (· < ·):=(rngI_asc _).filter _
theorem asc_nodup{l:List Int}(h:l.Pairwise (· < ·)):l.Nodup:=h.imp fun h=>by omega
theorem free_eq{p:Pol}(h:OkP p):p.free=(rngI p.size.toNat).filter fun i=>decide (i ∈ p.free):=by
 refine asc_ext h.asc ((rngI_asc _).filter _) fun x => ?_
 rw[List.mem_filter,rngI_mem,decide_eq_true_eq]
 constructor
 ·intro hx;have:=h.range x hx;exact⟨by omega,hx⟩
 ·exact fun hx=>hx.2
theorem filter_two(p:Int→Bool):∀ l:List Int,(l.filter p).length+(l.filter fun x => !p x).length=l.length
 | []=>rfl
 | x::l=>by
  have:=filter_two p l
  cases hp:p x
  ·rw[List.filter_cons_of_neg (by simp[hp]),List.filter_cons_of_pos (by simp[hp])];simp;omega
  ·rw[List.filter_cons_of_pos hp,List.filter_cons_of_neg (by simp[hp])];simp;omega
theorem tkn_free{p:Pol}(h:OkP p):(tknP p).length+p.free.length=p.size.toNat:=by
 have h1:=filter_two (fun i=>decide (i ∈ p.free)) (rngI p.size.toNat);rw[←free_eq h] at h1
 have h2:(rngI p.size.toNat).filter (fun x => !decide (x ∈ p.free))=tknP p:=by
  rw[tknP_eq]
  congr 1
  funext x
  simp
 rw[h2] at h1;have h3:(rngI p.size.toNat).length=p.size.toNat:=by simp[rngI]
 omega
theorem sub_all:∀ {a b:List Int},a.Nodup→(∀ x ∈ a,x ∈ b)→a.length=b.length→b.Nodup∧∀ x ∈ b,x ∈ a
 | [],b,_,_,h=>by
  obtain rfl:b=[]:=List.length_eq_zero_iff.1 h.symm;exact⟨List.nodup_nil,by simp⟩
 | x::a,b,hn,hs,hl=>by
  have hn:=List.nodup_cons.1 hn;have hx:=hs x (by simp);obtain⟨h1,h2⟩:=sub_all (b:=b.erase x) hn.2 (fun y hy=>(List.mem_erase_of_ne (fun e=>hn.1 (by rw[←e];exact hy))).2 (hs y (by simp[hy]))) (by rw[List.length_erase_of_mem hx];simp at hl;omega);have hp:=List.perm_cons_erase hx;refine⟨hp.nodup_iff.2 (List.nodup_cons.2 ⟨fun h=>hn.1 (h2 x h),h1⟩),fun y hy => ?_⟩
  rcases List.mem_cons.1 (hp.mem_iff.1 hy) with rfl | hy
  ·simp
  ·simp[h2 y hy]
theorem OkS.desc{s:Swp}(h:OkS s):s.desc.Nodup∧∀ d,d ∈ s.desc↔d ∈ tknP s.po:=by
 obtain⟨h1,h2⟩:=sub_all (asc_nodup (tknP_asc s.po)) h.tmem h.tlen;exact⟨h1,fun d=>⟨h2 d,h.tmem d⟩⟩
theorem tkP_ok{p:Pol}(h:OkP p){d:Int}{l:List Int}(e:p.free=d::l):tkP p=(⟨p.size,l⟩,d,0)∧OkP ⟨p.size,l⟩∧d ∉ tknP p∧(∀ x,x ∈ tknP ⟨p.size,l⟩↔x ∈ tknP p∨x=d)∧(tknP ⟨p.size,l⟩).length=(tknP p).length+1:=by
 have ha:=h.asc;have hr:=h.range;rw[e] at ha hr;have ha:=List.pairwise_cons.1 ha;have hok:OkP ⟨p.size,l⟩:=⟨h.size,fun x hx=>hr x (by simp[hx]),ha.2⟩;refine⟨?_,hok,?_,fun x => ?_,?_⟩
 ·unfold tkP
  rw[chkP_zero h,if_neg (by simp),e]
 ·rw[tknP_mem,e];simp
 ·rw[tknP_mem,tknP_mem,e]
  have hd:=hr d (by simp)
  have hnd:d ∉ l:=fun hd=>by have:=ha.1 d hd;omega
  simp only[List.mem_cons,not_or]
  constructor
  ·rintro ⟨h1,h2⟩
   by_cases hx:x=d
   ·exact .inr hx
   ·exact .inl ⟨h1,hx,h2⟩
  ·rintro (⟨h1,h2,h3⟩ | rfl)
   ·exact⟨h1,h3⟩
   ·exact⟨hd,hnd⟩
 ·have h1:=tkn_free h
  have h2:=tkn_free hok;rw[e] at h1;simp at h1 h2;omega
theorem gvP_ok{p:Pol}(h:OkP p){d:Int}(hd:d ∈ tknP p):(gvP p d).2=0∧(gvP p d).1.size=p.size∧OkP (gvP p d).1∧(∀ x,x ∈ tknP (gvP p d).1↔x ∈ tknP p∧x≠d)∧(tknP (gvP p d).1).length+1=(tknP p).length∧∀ x,x ∈ (gvP p d).1.free↔x ∈ p.free∨x=d:=by
 obtain⟨hd1,hd2⟩:=tknP_mem.1 hd
 have e:gvP p d=(⟨p.size,(rngI p.size.toNat).filter fun i=>decide (i=d∨i ∈ p.free)⟩,0):=by
  unfold gvP;rw[chkP_zero h,if_neg (by simp),if_neg (by omega),if_neg hd2];rfl
 have hf:∀ x,x ∈ (gvP p d).1.free↔x ∈ p.free∨x=d:=fun x=>by
  rw[e];simp only[List.mem_filter,rngI_mem,decide_eq_true_eq]
  constructor
  ·rintro ⟨_,h | h⟩
   ·exact .inr h
   ·exact .inl h
  ·rintro (h1 | rfl)
   ·have:=h.range x h1;exact⟨by omega,.inr h1⟩
   ·exact⟨by omega,.inl rfl⟩
 have hok:OkP (gvP p d).1:=by
  rw[e];refine⟨h.size,fun x hx => ?_,(rngI_asc _).filter _⟩;have:=rngI_mem.1 (List.mem_filter.1 hx).1;dsimp only;omega
 have hs:(gvP p d).1.size=p.size:=by rw[e]
 have hm:∀ x,x ∈ tknP (gvP p d).1↔x ∈ tknP p∧x≠d:=fun x=>by
  rw[tknP_mem,tknP_mem,hf,hs];simp only[not_or,and_assoc]
 refine⟨by rw[e],hs,hok,hm,?_,hf⟩
 have hl:((tknP p).erase d)=tknP (gvP p d).1:=by
  refine asc_ext ((tknP_asc p).sublist List.erase_sublist) (tknP_asc _) fun x => ?_
  rw[hm,(asc_nodup (tknP_asc p)).mem_erase_iff,and_comm]
 rw[←hl,List.length_erase_of_mem hd];have:=List.length_pos_of_mem hd;omega
theorem mkP_ltn{n:Nat}:∀ {l:List Int},(∀ d ∈ l,0≤d∧d<n)→mkP l<2 ^ n
 | [],_=>by simp[mkP];exact Nat.pow_pos (by decide)
 | d::l,h=>by
  have h1:=h d (by simp);exact Nat.or_lt_two_pow (mkP_ltn fun x hx=>h x (by simp[hx])) (Nat.pow_lt_pow_right (a:=2) (by decide) (by omega))
def tkF(l:List Int)(f:Nat):List Int:=(rngI f).filter fun i=>decide (i ∉ l)
theorem rngI_succ(n:Nat):rngI (n+1)=rngI n++[(n:Int)]:=by simp[rngI,List.range_succ]
theorem tkF_end{l:List Int}{f:Nat}:∀ {n:Nat},f≤n→(∀ j:Nat,f≤j→j<n→(j:Int) ∈ l)→tkF l n=tkF l f
 | 0,h,_=>by rw[show f=0 by omega]
 | n+1,h,hl=>by
  by_cases e:f=n+1
  ·rw[e]
  ·rw[←tkF_end (n:=n) (by omega) (fun j h1 h2=>hl j h1 (by omega))]
   unfold tkF;rw[rngI_succ,List.filter_append];simp[hl n (by omega) (by omega)]
theorem tkF_step{l:List Int}{f d:Nat}(h:f≤d)(hl:∀ j:Nat,f≤j→j<d→(j:Int) ∈ l)(hd:(d:Int) ∉ l):tkF l (d+1)=tkF l f++[(d:Int)]:=by
 rw[←tkF_end h hl];unfold tkF;rw[rngI_succ,List.filter_append];simp[hd]
theorem tkF_len(l:List Int)(f:Nat):(tkF l f).length≤f:=Nat.le_trans (List.length_filter_le _ _) (by simp[rngI])
theorem out_zero{n a:Nat}{l:List Int}(hn:n≤32)(hl:∀ d ∈ l,0≤d∧d<32)(h:outN n (mkP l.reverse) a=0):∀ j:Nat,a≤j→j<n→(j:Int) ∈ l:=by
 intro j h1 h2;have:=outN_bit (n:=n) (x:=mkP l.reverse) (a:=a) (by omega) j;rw[h,mkP_bit (fun x hx=>hl x (List.mem_reverse.1 hx))] at this;simp[h1,h2] at this;exact this
theorem out_some{n a:Nat}{l:List Int}(hn:n≤32)(hl:∀ d ∈ l,0≤d∧d<32)(h:outN n (mkP l.reverse) a≠0):a≤Lib.ctz 64 (outN n (mkP l.reverse) a)∧Lib.ctz 64 (outN n (mkP l.reverse) a)<n∧((Lib.ctz 64 (outN n (mkP l.reverse) a):Nat):Int) ∉ l ∧
  ∀ j:Nat,a≤j→j<Lib.ctz 64 (outN n (mkP l.reverse) a)→(j:Int) ∈ l:=by
 obtain⟨h1,h2⟩:=ctz_low h (outN_lt (by omega))
 generalize Lib.ctz 64 (outN n (mkP l.reverse) a)=d at h1 h2
 rw[outN_bit (by omega),mkP_bit (fun x hx=>hl x (List.mem_reverse.1 hx))] at h1;simp at h1;refine⟨h1.1.1,h1.1.2,h1.2,fun j h3 h4 => ?_⟩;have:=h2 j h4;rw[outN_bit (by omega),mkP_bit (fun x hx=>hl x (List.mem_reverse.1 hx))] at this;simp at this;exact this h3 (by omega)
theorem CanR.base_{α:Type}{E:Elt Tryz.prog α}{w:World}{base base':Nat}{A:Option Addr}{c:Nat}{l:List α}(h:CanR E w base A c l)(hb:base'≤base):CanR E w base' A c l:=h.imp_right fun h=>h.base_ hb
def TkPost(l:List Int)(w:World)(e:Ending)(w':World):Prop:=∃ A c,e=.returned (.tuple #[.slice A l.length c,.int .i64 0])∧CanR intE w' w.heap.size A c l∧Below w.heap.size w w'
theorem pTaken_any(A:Option Addr)(c:Nat)(p:Pol)(w:World)(hok:OkP p)(ha:SR intE w A p.free)(hz:TZ w) :
  Calls Tryz.prog 127 #[poV A c p] w (TkPost (tknP p) w):=by
 have hzz:=chkP_zero hok;have hlen:=hok.len;obtain⟨size,l⟩:=p;obtain⟨ok1,ok2,ok3⟩:=hok;dsimp only at *;unfold poV;dsimp only;obtain⟨n,rfl⟩:∃ n:Nat,size=n:=⟨size.toNat,by omega⟩;have HL:Hid (∀ d ∈ l,0≤d∧d<(n:Int)):=ok2
 have HL2:Hid (∀ d ∈ l,0≤d∧d<32):=fun d hd=>by have:=ok2 d hd;omega
 have HT:Hid (tknP ⟨(n:Int),l⟩=tkF l n):=by show _=_;rw[tknP_eq];simp[tkF]
 have HA:=Lib.hid ha;have HZ:=Lib.hid hzz;have HTZ:=Lib.hid hz;have n1:1≤n:=by omega
 have n2:n≤32:=by omega
 clear ha hzz hz ok2 ok3
 go_enter Tryz.func127,Tryz.ntmps127
 go_wp2_with fail;refine (pCheck_any A c ⟨(n:Int),l⟩ _ (HA.out.ext zbl) (by dsimp only;omega) HZ.out).mono ?_;rintro e1 w1 ⟨rfl,hb1⟩
 have kP:Blk w1 w.heap.size 33 #[.int .i64 n,.slice A l.length c]:=by refine Blk.below_ ?_ hb1 ?_ <;> first | exact Blk.new_ rfl rfl | simp
 have B1:Below w.heap.size w w1:=by refine Below.trans ?_ (hb1.mono (by simp));exact zbl
 obtain⟨q0,q1⟩:=zc2 kP;have zP:=kP.lt;clear hb1;go_wp2_with fail;refine (bNew_any n _ n1 n2).mono ?_;rintro e2 w2 ⟨b,off,c2,rfl,hcb,⟨hgb,hlb⟩,hb2⟩;have B2:Below w.heap.size w w2:=B1.trans (hb2.mono (by omega));replace kP:=kP.below_ hb2 zP;have z12:=hb2.size;clear hb2 q0 q1;obtain⟨q0,q1⟩:=zc2 kP;have zP2:w.heap.size<w2.heap.size:=by omega
 go_wp2_with fail;obtain⟨V,hV⟩:∃ V,w2.alloc (.cells #[.int .i64 n,.slice (some ⟨b,off,none⟩) 1 c2] 203)=V:=⟨_,rfl⟩;have kV:=za hV;have kQ:Blk V w.heap.size 33 #[.int .i64 n,.slice A l.length c]:=by rw[←hV];exact kP.alloc_ _
 have BV:Below w.heap.size w V:=by rw[←hV];exact zbl
 have zV:V.heap.size=w2.heap.size+1:=by rw[←hV];simp
 have cV:V.cell? ⟨b,off,none⟩=some (.int .u64 ((mkP (l.take 0).reverse:Nat):Int)):=by
  rw[←hV,List.take_zero];exact cell_keep ((Below.refl _ w2).alloc (Nat.le_refl _) _) hcb hlb
 rw[hV];clear hV q0 q1 kP hcb
 go_loopw [34] (fun i wr=>∃ (k:Nat) (b off c2:Nat),k≤l.length∧i=.int .i64 k∧Blk wr w.heap.size 33 #[.int .i64 n,.slice A l.length c]∧Blk wr w2.heap.size 203 #[.int .i64 n,.slice (some ⟨b,off,none⟩) 1 c2]∧Hid (wr.cell? ⟨b,off,none⟩=some (.int .u64 ((mkP (l.take k).reverse:Nat):Int)))∧Hid (w.heap.size≤b∧b<wr.heap.size∧b≠w2.heap.size)∧Below w.heap.size w wr) (fun i _=>l.length - (intOf i).toNat)
 case atStart=>exact⟨0,b,off,c2,by omega,rfl,kQ,kV,cV,⟨by omega,by omega,by omega⟩,BV⟩
 case round=>
  obtain⟨k,b,off,c2,hk,rfl,kQ1,kV1,HC,HB,hb⟩:=hrel;clear kQ kV cV
  have hxl:mkP (l.take k).reverse<2 ^ n:=mkP_ltn fun x hx=>HL.out x (List.mem_of_mem_take (List.mem_reverse.1 hx))
  have zQ:=kQ1.lt;have zW:=kV1.lt;have q0:=zc kQ1 0;have q1:=zc kQ1 1;have s0:=zc kV1 0;have s1:=zc kV1 1;obtain⟨sf0,sf1,-⟩:=zf kV1
  by_cases hlt:k<l.length
  ·obtain⟨bA,oA,x,rfl,hbl,hx,q2⟩:=(HA.out.ext hb).sl.at_ hlt
   have i1:(k:Int)<l.length:=by omega
   have hx2:=HL.out x (List.mem_of_getElem? hx);obtain⟨d,rfl⟩:∃ d:Nat,x=d:=⟨x.toNat,by omega⟩
   have hmk:mkP (l.take (k+1)).reverse=mkP (l.take k).reverse ||| 2 ^ d:=by
    rw[List.take_add_one,hx];simp[mkP]
   have HX:=Lib.hid hxl;have HMK:=Lib.hid hmk;have hdn:d<n:=by omega
   clear hx hx2 hxl hmk;go_wp2_with fail;refine (bPut_any b off c2 n (mkP (l.take k).reverse) d wr n1 n2 HX.out hdn HC.out HB.out.2.1).mono ?_;rintro e3 w3 ⟨b3,off3,c3,rfl,hc3,⟨hg3,hl3⟩,hb3⟩;have kQ3:=kQ1.below_ hb3 zQ;have kV3:=kV1.below_ hb3 zW;have b3w:Below w.heap.size w w3:=hb.trans (hb3.mono (by have:=hb.size;omega));clear q0 q1 q2 s0 s1 sf0 sf1;have q0:=zc kQ3 0;have q1:=zc kQ3 1;have s0:=zc kV3 0;have s1:=zc kV3 1;obtain⟨sf0,sf1,-⟩:=zf kV3;go_wp2_with fail;have hne:b3≠w2.heap.size:=by omega
   refine⟨⟨k+1,b3,off3,c3,by omega,by go_num,(kQ3.far_ (by show w.heap.size≠w2.heap.size;omega) _).far_ (by show w.heap.size≠w2.heap.size;omega) _,by simpa using (kV3.set_ 0 (.int .i64 n)).set_ 1 (.slice (some ⟨b3,off3,none⟩) 1 c3),?_,?_,?_⟩,by simp[intOf];omega⟩
   ·show _=_
    rw[World.cell?_setCell_other _ _ _ _ (by intro e;injection e with e1;omega),World.cell?_setCell_other _ _ _ _ (by intro e;injection e with e1;omega),HMK.out];exact hc3
   ·refine⟨by have:=hb.size;omega,?_,hne⟩
    simp[World.setCell];exact hl3
   ·exact(b3w.setCell (p:=⟨w2.heap.size,0,none⟩) (by show w.heap.size≤w2.heap.size;omega) _).setCell (p:=⟨w2.heap.size,1,none⟩) (by show w.heap.size≤w2.heap.size;omega) _
  ·obtain rfl:k=l.length:=by omega
   rw[List.take_length] at HC hxl;have HX:=Lib.hid hxl;have HTO:Hid (TZ wr):=HTZ.out.ext HTZ.out.pos hb;obtain⟨wo,rfl⟩:∃ wo,wo=wr:=⟨_,rfl⟩;clear hxl q0 q1 s0 s1 sf0 sf1;go_wp2_with fail
   go_loopw [10,11] (fun v f w5=>∃ (k:Nat) (A':Option Addr) (c' L:Nat) (zs:List Int),k≤n∧f=.int .i64 k∧v=.slice A' L c'∧Hid (zs=tkF l k)∧Hid (L=zs.length)∧Hid (CanR intE w5 wo.heap.size A' c' zs)∧Below wo.heap.size wo w5) (fun _ f _=>n - (intOf f).toNat)
   case atStart=>exact⟨0,none,0,0,[],by omega,rfl,rfl,rfl,rfl,.inl ⟨rfl,SR.nil⟩,Below.refl _ _⟩
   case round=>
    obtain⟨k,A',c',L,zs,hk,rfl,rfl,HZS,HLL,HCAN,hb5⟩:=hrel;have kQ5:=kQ1.below_ hb5 zQ;have kV5:=kV1.below_ hb5 zW;have zQ5:=kQ5.lt;have zV5:=kV5.lt;have b5w:Below w.heap.size w wr:=hb.trans (hb5.mono (by have:=hb.size;omega));have hsz:=hb5.size;have q0:=zc kQ5 0;have q1:=zc kQ5 1;have s0:=zc kV5 0;have s1:=zc kV5 1
    by_cases hlt:k<n
    ·have i1:(k:Int)<n:=by omega
     obtain⟨m,hm⟩:∃ m,outN n (mkP l.reverse) k=m:=⟨_,rfl⟩;have HM:=Lib.hid hm
     by_cases m0:m=0
     ·have HE:Hid (tkF l n=zs):=by
       show _=_;rw[HZS.out];exact tkF_end (by omega) (out_zero (by omega) HL2.out (by rw[hm,m0]))
      have HM0:=Lib.hid m0;clear hm m0;go_wp2_with fail;refine (bNext_any b off c2 n (mkP l.reverse) k wr n1 n2 HX.out hk (cell_keep hb5 HC.out HB.out.2.1) (Nat.lt_of_lt_of_le HB.out.2.1 hsz) (HTO.out.ext HTO.out.pos hb5)).mono ?_;rw[HM.out,if_pos HM0.out];rintro e6 w6 ⟨rfl,hb6⟩;go_wp2_with fail;refine bodyPost_ret (by simp[results,Tryz.results127,go_sem] <;> rfl) rfl ?_;unfold TkPost;rw[HT.out,HE.out];exact⟨A',c',by rw[HLL.out],CanR.base_ (HCAN.out.ext hb6) (by have:=hb.size;omega),b5w.trans (hb6.mono (by have:=b5w.size;omega))⟩
     ·obtain⟨o1,o2,o3,o4⟩:=out_some (l:=l) (n:=n) (a:=k) (by omega) HL2.out (by rw[hm];exact m0)
      rw[hm] at o1 o2 o3 o4;obtain⟨d,hd⟩:∃ d,Lib.ctz 64 m=d:=⟨_,rfl⟩;rw[hd] at o1 o2 o3 o4
      have HE:Hid (tkF l (d+1)=zs++[(d:Int)]):=by
       show _=_;rw[HZS.out];exact tkF_step o1 o4 o3
      have H1:Hid ((zs++[(d:Int)]).length=L+1):=by show _=_;simp[HLL.out]
      have HZL:Hid (zs.length≤1000):=by show _≤_;have:=tkF_len l k;rw[←HZS.out] at this;omega
      have HM0:=Lib.hid m0;have HD:=Lib.hid hd;clear hm m0 hd o3 o4;go_wp2_with fail;refine (bNext_any b off c2 n (mkP l.reverse) k wr n1 n2 HX.out hk (cell_keep hb5 HC.out HB.out.2.1) (Nat.lt_of_lt_of_le HB.out.2.1 hsz) (HTO.out.ext HTO.out.pos hb5)).mono ?_;rw[HM.out,if_neg HM0.out,HD.out];rintro e6 w6 ⟨rfl,hb6⟩;have hsz6:=hb6.size;have hszw:=b5w.size
      go_wp2_with (at_builtin;refine wpList_appR intE rfl (.tmp 62) (.tmp 64) _ rfl rfl _ wo.heap.size (by simp;omega) A' c' L zs HLL.out ((HCAN.out.ext hb6).ext ?_) (some ⟨w6.heap.size,0,none⟩) 1 1 [(d:Int)] rfl (SR.of_blk (E:=intE) (l:=[(d:Int)]) (t:=3) (Blk.new_ (by simp) rfl)) (by have:=HZL.out;simp;omega) rfl rfl ?_;(exact(Below.refl _ w6).alloc (Nat.le_refl _) _);rw[H1.out];intro A5 c5 w7 hO7 hb7 hm7)
      have H7:CanR intE w7 wo.heap.size A5 c5 (zs++[(d:Int)]):=hO7;have hb67:Below wo.heap.size wo w7:=(hb5.trans (hb6.mono (by omega))).trans (Below.trans ((Below.refl _ w6).alloc (by omega) _) hb7)
      go_roundw
      case rel=>exact⟨d+1,A5,c5,L+1,zs++[(d:Int)],by omega,by go_num,rfl,HE.out.symm,H1.out.symm,H7,hb67⟩
      case measure=>simp[intOf];omega
    ·obtain rfl:k=n:=by omega
     have HE:Hid (tkF l k=zs):=by show _=_;rw[HZS.out]
     go_wp2_with fail;refine bodyPost_ret (by simp[results,Tryz.results127,go_sem] <;> rfl) rfl ?_;unfold TkPost;rw[HT.out,HE.out];exact⟨A',c',by rw[HLL.out],CanR.base_ HCAN.out (by have:=hb.size;omega),b5w⟩
end Go.Proofs.YthijbipidbjpfaaGreatDoor
