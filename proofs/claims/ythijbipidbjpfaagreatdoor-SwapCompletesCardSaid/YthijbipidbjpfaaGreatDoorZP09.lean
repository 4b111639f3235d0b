import Derived.Test.YthijbipidbjpfaaGreatDoorZP08
import Derived.Test.YthijbipidbjpfaaGreatDoorZP00
import Derived.Test.YthijbipidbjpfaaGreatDoorZP03
import Derived.Test.YthijbipidbjpfaaGreatDoorZP06
import Derived.WalkMore
set_option linter.unusedSimpArgs false
set_option linter.unusedVariables false
set_option maxRecDepth 100000
set_option maxHeartbeats 8000000
namespace Go.Proofs.YthijbipidbjpfaaGreatDoor
open Go.RowKit Go.Maps
noncomputable def refM:MTy Tryz.prog Int Int where
 t:=176
 K:=3
 e:=3
 ht:=Tryz.underlying176
 KK:=Go.Maps.int_keyed Tryz.underlying3
 kv k:=.int .i64 k
 kl k:=.int .i64 k
 okk k:=(Lit.int .i64 k).wf=true
 hkey k h:=keyOf_int_mk Tryz.underlying3 h
 kvinj a b h:=by injection h
 ev v:=.int .i64 v
 dt v:=.lit (.int .i64 v)
 R:=plainElem Tryz.prog 3
 oke v:=(Lit.int .i64 v).wf=true
 hR v h:=plainElem_int Tryz.underlying3 h
 hinv u y h:=by obtain⟨a,rfl,rfl,_⟩:=plainElem_int_inv Tryz.underlying3 h;exact⟨a,rfl,rfl⟩
 dinj a b h:=by injection h with h;injection h
 z:=0
 okz:=by decide
 hz w:=by first | exact Tryz.zeroValue3 w | simp[go_sem]
theorem wpList_putRf{ops:Array Oper}{rest:List Oper}{o:Oper}{a:Act}{Z:Exit→Act→World→Prop}(w:World)(hg:o.guard=none)(mo x vo:Operand)(hop:o.op=Op.mapUpdate 176 mo x vo)
  (B n:Nat) (m:Int→Option Int) (hm:a.eval mo=.map (some B)) (h:MapT refM w B n m) (hn:n<maxLen) (k v:Int) (hx:a.eval x=.int .i64 k) (hv:a.eval vo=.int .i64 v) (hk:(Lit.int .i64 k).wf=true) (hwf:(Lit.int .i64 v).wf=true)
  (hK:∀ w',MapT refM w' B (n+1) (fun j=>if j=k then some v else m j)→w.grownBy w' (some B)→w'.heap.size=w.heap.size→wpList Tryz.prog ops Z rest (a.put o.dst undef) w'):wpList Tryz.prog ops Z (o::rest) a w:=
 wpList_putT refM w hg _ rfl mo x vo hop B n m hm h hn k v hx hv hk hwf hK
theorem wpList_delRf{ops:Array Oper}{rest:List Oper}{o:Oper}{a:Act}{Z:Exit→Act→World→Prop}(w:World)(hg:o.guard=none)(mo x:Operand)(hop:o.op=Op.call { callee:=Callee.builtin Builtin.delete,args:=#[mo,x],argTypes:=#[176,3] })
  (B n:Nat) (m:Int→Option Int) (hm:a.eval mo=.map (some B)) (h:MapT refM w B n m) (k:Int) (hx:a.eval x=.int .i64 k) (hk:(Lit.int .i64 k).wf=true)
  (hK:∀ w',MapT refM w' B n (fun j=>if j=k then none else m j)→w.grownBy w' (some B)→w'.heap.size=w.heap.size→wpList Tryz.prog ops Z rest (a.put o.dst (.tuple #[])) w'):wpList Tryz.prog ops Z (o::rest) a w:=
 wpList_delT refM w hg _ _ rfl rfl mo x hop B n m hm h k hx hk hK
theorem wf_i{a:Int}(h:-1000000≤a∧a≤1000000):(Lit.int .i64 a).wf=true:=WalkArith.wf_i64 (by omega)
def mR(s:Sts):Int→Option Int:=fun i=>if 0≤i∧refT s i.toNat≠0 then some (refT s i.toNat) else none
theorem mR_get(s:Sts)(i:Nat):(mR s i).getD 0=refT s i:=by
 unfold mR
 by_cases h:refT s i=0
 ·rw[if_neg (by simp[h])];simp[h]
 ·rw[if_pos (by simp[h])];simp
theorem mR_is(s:Sts)(i:Nat):(mR s i).isSome=decide (refT s i≠0):=by
 unfold mR
 by_cases h:refT s i=0
 ·rw[if_neg (by simp[h])];simp[h]
 ·rw[if_pos (by simp[h])];simp[h]
theorem mR_wit{s:Sts}{i:Nat}(hi:i<s.refs.length){r:Int}{b:Bool}:mR (witT s i r b)=fun (j:Int)=>if j=(i:Int) then (if r≠0 then some r else none) else mR s j:=by
 funext j
 unfold mR
 by_cases e:j=i
 ·subst e
  have e2:refT (witT s i r b) (i:Int).toNat=r:=by rw[Int.toNat_natCast,refT_wit hi,if_pos rfl]
  rw[if_pos rfl,e2]
  by_cases h:r=0
  ·rw[if_neg (by simp[h]),if_neg (by simp[h])]
  ·rw[if_pos (by simp[h]),if_pos h]
 ·rw[if_neg e]
  by_cases h0:0≤j
  ·have e3:refT (witT s i r b) j.toNat=refT s j.toNat:=by rw[refT_wit hi,if_neg (by omega)]
   rw[e3]
  ·rw[if_neg (by omega),if_neg (by omega)]
def BK(w:World)(b M n:Nat)(s:Sts):Prop:=∃ (x cnt:Nat),(Blk w b 180 #[.int .i64 (n:Int),.map (some M),.int .u64 (x:Int),.int .u64 0,.int .u64 0,.int .u64 0]∧MapT refM w M cnt (mR s))∧cnt≤100∧x<18446744073709551616∧∀ j,x.testBit j=bsyT s j
theorem BK.ext{w w':World}{b M n:Nat}{s:Sts}(h:BK w b M n s)(hb:Below w.heap.size w w'):BK w' b M n s:=by
 obtain⟨x,cnt,⟨h1,h2⟩,h3⟩:=h;exact⟨x,cnt,⟨h1.below_ hb h1.lt,h2.ext hb⟩,h3⟩
theorem free_any(b M n:Nat)(s:Sts)(i:Nat)(w:World)(h:BK w b M n s)(hi:i<64) :
  Calls Tryz.prog 148 #[.pointer (some ⟨b,0,none⟩),.int .i64 i] w fun e w'=>e=.returned (.bool (freT s i))∧w=w':=by
 obtain⟨x,cnt,⟨kB,hM⟩,hcn,hx,hxb⟩:=h;have hlk:=hM.look_ok (k:=(i:Int)) (wf_i (by omega)) (mR_get s i) (mR_is s i);have q1:=zc kB 1;have q2:=zc kB 2;have hbl:=kB.lt;have HXB:=Lib.hid (hxb i);clear hM kB hcn hxb;replace hlk:(Instr.lookup 176 (.map (some M)) (.int .i64 i) true).run Tryz.prog w=.ok (.tuple #[.int .i64 (refT s i),.bool (decide (refT s i≠0))]) w:=hlk
 cases h0:decide (refT s i≠0)
 ·have hz:refT s i=0:=by simpa using h0
  have hfr:Hid (freT s i = !x.testBit i):=by show _=_;unfold freT;rw[hz,HXB.out];simp
  rw[h0] at hlk;clear h0 hz
  go_enter Tryz.func148,Tryz.ntmps148
  go_wp2_with fail;refine (has_any b 2 x i _ q2 hx hi hbl).mono ?_;rintro e w2 ⟨rfl,rfl⟩;go_wp2_with fail;go_ret;rw[hfr.out];exact⟨rfl,rfl⟩
 ·have hz:refT s i≠0:=by simpa using h0
  have hfr:Hid (freT s i=false):=by show _=_;unfold freT;simp[hz]
  rw[h0] at hlk;clear h0 hz
  go_enter Tryz.func148,Tryz.ntmps148
  go_wp2_with fail;go_ret;rw[hfr.out];exact⟨rfl,rfl⟩
def stV(A:Option Addr)(c:Nat)(B:Option Addr)(d:Nat)(s:Sts):Value:=.agg #[.slice A s.refs.length c,.slice B s.busy.length d]
def BkPost(s:Sts)(w:World)(e:Ending)(w':World):Prop:=∃ A c B d,e=.returned (stV A c B d s)∧OwnE intE w' w.heap.size A c s.refs∧OwnE boolE w' w.heap.size B d s.busy∧Below w.heap.size w w'
def MkF{α:Type}(E:Elt Tryz.prog α)(l:List α)(n:Nat)(v:Value)(lo hi:Nat)(w:World):Prop:=∃ g,v=.slice (some ⟨g,0,none⟩) n n∧OwnR E w lo (.slice (some ⟨g,0,none⟩) n n) l∧g<hi∧lo≤g
theorem MkF.lasts{α:Type}(E:Elt Tryz.prog α)(l:List α)(n:Nat):(Fk.has (MkF E l n)).lasts:=fun _ _ _ _ _ ⟨g,e,h,h1,h2⟩ hb=>⟨g,e,h.ext hb,h1,h2⟩
theorem BK.look{w:World}{b M n:Nat}{s:Sts}(h:BK w b M n s)(i:Nat)(hi:i<64):(Instr.lookup 176 (.map (some M)) (.int .i64 i) false).run Tryz.prog w=.ok (.int .i64 (refT s i)) w:=by
 obtain⟨x,cnt,⟨_,hM⟩,_⟩:=h;exact hM.look_ (k:=(i:Int)) (wf_i (by omega)) (mR_get s i)
theorem bkHas_any(b M n:Nat)(s:Sts)(i:Nat)(w:World)(h:BK w b M n s)(hi:i<64):Calls Tryz.prog 182 #[.pointer (some ⟨b,2,none⟩),.int .i64 i] w fun e w'=>e=.returned (.bool (bsyT s i))∧w=w':=by
 obtain⟨x,cnt,⟨kB,_⟩,_,hx,hxb⟩:=h;have q2:=zc kB 2;rw[←hxb i];exact has_any b 2 x i w q2 hx hi kB.lt
def rowF{α:Type}(l:List α)(z:α)(k:Nat):List α:=l.take k++List.replicate (l.length - k) z
theorem rowF_len{α:Type}(l:List α)(z:α){k:Nat}(hk:k≤l.length):(rowF l z k).length=l.length:=by
 unfold rowF;rw[List.length_append,List.length_take,List.length_replicate];omega
theorem rowF_zero{α:Type}(l:List α)(z:α):rowF l z 0=List.replicate l.length z:=by simp[rowF]
theorem rowF_all{α:Type}(l:List α)(z:α){k:Nat}(hk:k=l.length):rowF l z k=l:=by simp[rowF,hk]
theorem rowF_at{α:Type}(l:List α)(z:α){k:Nat}(hk:k<l.length):(rowF l z k)[k]? = some z:=by
 unfold rowF;rw[List.getElem?_append_right (by simp;omega),List.length_take,Nat.min_eq_left (by omega),Nat.sub_self,List.getElem?_replicate,if_pos (by omega)]
theorem rowF_set{α:Type}(l:List α)(z:α){k:Nat}{x:α}(hx:l[k]? = some x):(rowF l z k).set k x=rowF l z (k+1):=by
 obtain⟨hk,_⟩:=List.getElem?_eq_some_iff.1 hx;unfold rowF;rw[List.set_append_right _ _ (by rw[List.length_take];omega),List.length_take,Nat.min_eq_left (by omega),Nat.sub_self,show l.length - k=(l.length - (k+1))+1 by omega,List.replicate_succ,List.set_cons_zero,List.take_add_one,hx,List.append_assoc];rfl
theorem slots_any(b M:Nat)(s:Sts)(w:World)(h:BK w b M s.refs.length s)(hl:s.refs.length≤40)(hl0:1≤s.refs.length)(hbl:s.busy.length=s.refs.length) :
  Calls Tryz.prog 149 #[.pointer (some ⟨b,0,none⟩)] w (BkPost s w):=by
 obtain⟨n,hn⟩:∃ n,s.refs.length=n:=⟨_,rfl⟩;rw[hn] at h hl hl0 hbl;have HK:=Lib.hid h
 have hmI:=fun (W:World)=>run_mkR intE 0 (by rfl) n (by omega) W
 have hmB:=fun (W:World)=>run_mkR boolE false (by rfl) n (by omega) W
 replace hmI:∀ W:World,(Instr.makeSlice 22 (.int .i64 n) (.int .i64 n)).run Tryz.prog W=.ok (.slice (some ⟨W.heap.size,0,none⟩) n n) (W.alloc (.cells (intE.flat (List.replicate n 0)).toArray 3)):=hmI
 replace hmB:∀ W:World,(Instr.makeSlice 23 (.int .i64 n) (.int .i64 n)).run Tryz.prog W=.ok (.slice (some ⟨W.heap.size,0,none⟩) n n) (W.alloc (.cells (boolE.flat (List.replicate n false)).toArray 4)):=hmB
 obtain⟨x,cnt,⟨kB,hM⟩,hcn,hx,hxb⟩:=h;have q0:=zc kB 0;have q1b:=zc kB 1;have hlB:=kB.lt;clear hM hcn hxb hx
 go_enter Tryz.func149,Tryz.ntmps149
 go_wp2_with fail;have B0:Below w.heap.size w (w.alloc (.cells #[.slice none 0 0,.slice none 0 0] 25)):=zbl;refine zrg [0,0,0,1,2,0,0,0,1,2,0,2,3] [[],[],[],[],[],[],[],[],[],[],[4,9],[],[]] [.is ?_,.is ?_,.is ?_,.kn ?_,.has (MkF intE (List.replicate n 0) n),.is ?_,.is ?_,.is ?_,.kn ?_,.has (MkF boolE (List.replicate n false) n),.fn [4,9] (fun l=>.agg #[l.getD 0 undef,l.getD 1 undef]),.has (VarN 25 [.slice none 0 0,.slice none 0 0]),.late] [12] (lts_is (lts_is (lts_is (lts_kn (lts_has (MkF.lasts intE (List.replicate n 0) n) (lts_is (lts_is (lts_is (lts_kn (lts_has (MkF.lasts boolE (List.replicate n false) n) (lts_fn (lts_has (VarN.lasts 25 [.slice none 0 0,.slice none 0 0]) (lts_late lts_nil))))))))))))) (fun W0 hb0 hz0 => ?_)
 rotate_left 8
 have p0:=cell_keep (B0.trans (hb0.mono (by simp))) q0 hlB;have zW:b<W0.heap.size:=Nat.lt_of_lt_of_le hlB (Nat.le_trans (by simp) hb0.size);refine zqp ?_;refine zqp ?_;refine zqp ?_;refine zqT (fun w hbw hd => ?_) ?_
 ·have q1:=cell_keep hbw p0 zW
  exact zgs
 refine zqh (fun w hbw hd K Q' hK => ?_) (fun vsl4 => ?_)
 ·clear hd
  go_simp;exact hK.out (.slice (some ⟨w.heap.size,0,none⟩) n n) _ _ zpt zbm ⟨_,rfl,OwnR.made intE 0 n (by omega) _ (Nat.le_refl _),by simp,Nat.le_refl _⟩
 refine zqp ?_;refine zqp ?_;refine zqp ?_;refine zqT (fun w hbw hd => ?_) ?_
 ·have q1:=cell_keep hbw p0 zW
  exact zgs
 refine zqh (fun w hbw hd K Q' hK => ?_) (fun vsl9 => ?_)
 ·clear hd
  go_simp;exact hK.out (.slice (some ⟨w.heap.size,0,none⟩) n n) _ _ zpt zbm ⟨_,rfl,OwnR.made boolE false n (by omega) _ (Nat.le_refl _),by simp,Nat.le_refl _⟩
 refine zqF (.agg #[vsl4,vsl9]) (fun w0 hd w => ?_) ?_
 ·obtain⟨_,_,g1,rfl,_⟩:∃ lo hi,MkF intE (List.replicate n 0) n vsl4 lo hi w0:=hd 4 _ _ (by kernel_rfl) rfl rfl
  obtain⟨_,_,g2,rfl,_⟩:∃ lo hi,MkF boolE (List.replicate n false) n vsl9 lo hi w0:=hd 9 _ _ (by kernel_rfl) rfl rfl;exact zsr
 refine zqh (fun w hbw hd K Q' hK => ?_) (fun vsl11 => ?_)
 ·clear hd
  go_simp;exact hK.out (.pointer (some ⟨w.heap.size,0,none⟩)) _ _ zpt zbm ⟨_,rfl,Blk.new_ rfl rfl,Nat.le_refl _,by simp⟩
 refine zql ?_;refine chn_end (fun wz lo hi hbz hd hR => ?_);obtain⟨gI,rfl,oI,lI,mI⟩:MkF intE (List.replicate n 0) n vsl4 (lo 4) (hi 4) wz:=hd 4 _ _ rfl rfl;obtain⟨gB,rfl,oB,lB,mB⟩:MkF boolE (List.replicate n false) n vsl9 (lo 9) (hi 9) wz:=hd 9 _ _ rfl rfl;obtain⟨B,rfl,kz,hlo,hhi⟩:VarN 25 [.slice none 0 0,.slice none 0 0] vsl11 (lo 11) (hi 11) wz:=hd 11 _ _ rfl rfl;have r1:=(hR.2 4 _ rfl).1;have r2:=(hR.2 9 _ rfl).1;have r3:=(hR.2 11 _ rfl).1;have hne:gI≠gB:=by have:=hR.1 4 9 _ _ rfl rfl (by decide);omega
 have neI:gI≠B:=by have:=hR.1 4 11 _ _ rfl rfl (by decide);omega
 have neB:gB≠B:=by have:=hR.1 9 11 _ _ rfl rfl (by decide);omega
 have hz0w:=hb0.size;have hbwz:Below w.heap.size w wz:=B0.trans ((hb0.trans (hbz.mono hz0w)).mono (by simp));have hzz:=hbz.size;have klz:=kz.lt;clear hd hR p0;have y0:=zc kz 0;have y1:=zc kz 1;obtain⟨yf0,yf1,-⟩:=zf kz;refine late_one (by simp only[zy5,zy6,zy7];rfl) (fun K Q' hK => ?_);go_simp;refine hK.out _ ?_;clear hK K Q';obtain⟨V,hV⟩:∃ V,(wz.setCell ⟨B,0,none⟩ (.slice (some ⟨gI,0,none⟩) n n)).setCell ⟨B,1,none⟩ (.slice (some ⟨gB,0,none⟩) n n)=V:=⟨_,rfl⟩;have zz1:w.heap.size+1≤W0.heap.size:=by have:=hz0w;simpa using this
 have kB2:Blk V B 25 #[.slice (some ⟨gI,0,none⟩) n n,.slice (some ⟨gB,0,none⟩) n n]:=by rw[←hV];exact(kz.set_ 0 _).set_ 1 _
 have oI2:OwnR intE V (w.heap.size+1) (.slice (some ⟨gI,0,none⟩) n n) (rowF s.refs 0 0):=by rw[←hV,rowF_zero,hn];exact((oI.base_ (by omega)).far' (by exact neI) _).far' (by exact neI) _
 have oB2:OwnR boolE V (w.heap.size+1) (.slice (some ⟨gB,0,none⟩) n n) (rowF s.busy false 0):=by rw[←hV,rowF_zero,hbl];exact((oB.base_ (by omega)).far' (by exact neB) _).far' (by exact neB) _
 have BV:Below w.heap.size w V:=by rw[←hV];exact(hbwz.setCell (p:=⟨B,0,none⟩) (by show w.heap.size≤B;omega) _).setCell (p:=⟨B,1,none⟩) (by show w.heap.size≤B;omega) _
 have kR:Blk V w.heap.size 25 #[.slice none 0 0,.slice none 0 0]:=by
  have k0:Blk wz w.heap.size 25 #[.slice none 0 0,.slice none 0 0]:=(Blk.new_ rfl rfl:Blk (w.alloc (.cells #[.slice none 0 0,.slice none 0 0] 25)) w.heap.size 25 _).below_ (hb0.trans (hbz.mono hz0w)) (by simp);rw[←hV];exact(k0.far_ (by show w.heap.size≠B;omega) _).far_ (by show w.heap.size≠B;omega) _
 have nB:w.heap.size+1≤B:=by omega
 rw[hV];clear hV oI oB kz y0 y1 yf0 yf1;have q0V:=cell_keep BV q0 hlB;have hlV:=Nat.lt_of_lt_of_le hlB BV.size;go_wp2_with fail
 go_loopw [20] (fun i wr=>∃ k:Nat,k≤n∧i=.int .i64 k∧Blk wr B 25 #[.slice (some ⟨gI,0,none⟩) n n,.slice (some ⟨gB,0,none⟩) n n]∧Hid (OwnR intE wr (w.heap.size+1) (.slice (some ⟨gI,0,none⟩) n n) (rowF s.refs 0 k))∧Hid (OwnR boolE wr (w.heap.size+1) (.slice (some ⟨gB,0,none⟩) n n) (rowF s.busy false k))∧Blk wr w.heap.size 25 #[.slice none 0 0,.slice none 0 0]∧Below w.heap.size w wr) (fun i _=>n - (intOf i).toNat)
 case atStart=>exact⟨0,by omega,rfl,kB2,oI2,oB2,kR,BV⟩
 case round=>
  obtain⟨k,hk,rfl,kS,HOI,HOB,kR2,hb⟩:=hrel;clear kB2 oI2 oB2 kR q0V;have zS:=kS.lt
  by_cases hlt:k<n
  ·have i1:(k:Int)<n:=by omega
   go_wp2_with fail;refine zrg [0,1,0,0,0,0,1,0,1,0,3] [[],[],[],[],[],[],[],[],[],[],[]] [.is ?_,.kn ?_,.is ?_,.is ?_,.is ?_,.is ?_,.kn ?_,.is ?_,.kn (.int .i64 (refT s k)),.is ?_,.late] [10] (lts_is (lts_kn (lts_is (lts_is (lts_is (lts_is (lts_kn (lts_is (lts_kn (lts_is (lts_late lts_nil))))))))))) (fun W0 hb0 hz0 => ?_)
   rotate_left 9
   have kW:=kS.below_ hb0 zS;have zW:=kW.lt;have hz0w:=hb0.size;have bW0:=zbt hb hb0;have u1:=cell_keep bW0 q1b hlB;have zb:b<W0.heap.size:=Nat.lt_of_lt_of_le hlB bW0.size;have p0:=zc kW 0;have p1:=zc kW 1;refine zqp ?_;refine zqT (fun w hbw hd => ?_) ?_
   ·have q1:=cell_keep hbw p0 zW
    exact zgs
   refine zqp ?_;refine zqp ?_;refine zqp ?_;refine zqp ?_;refine zqT (fun w hbw hd => ?_) ?_
   ·have q1:=cell_keep hbw u1 zb
    exact zgs
   refine zqp ?_;refine zqT (fun w hbw hd => ?_) ?_
   ·have hlk:=((HK.out.ext bW0).ext hbw).look k (by omega)
    exact zgs
   refine zqp ?_;refine zql ?_;refine chn_end (fun wz lo hi hbz hd hR => ?_);have hzz:=hbz.size;have oI5:=(HOI.out.ext hb0).ext hbz;have oB5:=(HOB.out.ext hb0).ext hbz;have kS5:=kW.below_ hbz zW;have kR5:=kR2.below_ (hb0.trans (hbz.mono hz0w)) kR2.lt;have b5:Below w.heap.size w wz:=hb.trans ((hb0.trans (hbz.mono hz0w)).mono hb.size);have zS5:=kS5.lt;obtain⟨d0,df,dl⟩:=oI5.cell1 rfl (rowF_at s.refs 0 (by omega)) rfl;clear hd hR p0 p1 u1;refine late_one (by simp only[zy5,zy6,zy7];rfl) (fun K Q' hK => ?_);go_simp;refine hK.out _ ?_;clear hK K Q';obtain⟨V6,hV6⟩:∃ V6,wz.setCell ⟨gI,k,none⟩ (.int .i64 (refT s k))=V6:=⟨_,rfl⟩;have mI':w.heap.size+1≤gI:=(oI5.block).1;have mB':w.heap.size+1≤gB:=(oB5.block).1
   have oI6:OwnR intE V6 (w.heap.size+1) (.slice (some ⟨gI,0,none⟩) n n) (rowF s.refs 0 (k+1)):=by
    have h:=oI5.set1 (i:=k) rfl (by rw[rowF_len _ _ (by omega)];omega) (refT s k) (v:=.int .i64 (refT s k)) rfl;rw[rowF_set s.refs 0 (x:=refT s k) (by unfold refT;rw[List.getD_eq_getElem?_getD,List.getElem?_eq_getElem (by omega)];rfl)] at h;rw[←hV6];exact h
   have oB6:OwnR boolE V6 (w.heap.size+1) (.slice (some ⟨gB,0,none⟩) n n) (rowF s.busy false k):=by rw[←hV6];exact oB5.far' (by exact fun e=>hne e.symm) _
   have kS6:Blk V6 B 25 #[.slice (some ⟨gI,0,none⟩) n n,.slice (some ⟨gB,0,none⟩) n n]:=by rw[←hV6];exact kS5.far_ (by exact fun e=>neI e.symm) _
   have kR6:Blk V6 w.heap.size 25 #[.slice none 0 0,.slice none 0 0]:=by rw[←hV6];exact kR5.far_ (by show w.heap.size≠gI;omega) _
   have b6:Below w.heap.size w V6:=by rw[←hV6];exact b5.setCell (p:=⟨gI,k,none⟩) (by show w.heap.size≤gI;omega) _
   rw[hV6];clear hV6 oI5 oB5 kS5 kR5 b5 d0 df dl;go_wp2_with fail;refine zrg [0,1,0,0,0,0,0,1,0,3] [[],[],[],[],[],[],[],[],[],[]] [.is ?_,.kn ?_,.is ?_,.is ?_,.is ?_,.is ?_,.is ?_,.kn (.bool (bsyT s k)),.is ?_,.late] [9] (lts_is (lts_kn (lts_is (lts_is (lts_is (lts_is (lts_is (lts_kn (lts_is (lts_late lts_nil)))))))))) (fun W0 hb0 hz0 => ?_)
   rotate_left 8
   have kW:=kS6.below_ hb0 kS6.lt;have zW:=kW.lt;have hz0w:=hb0.size;have bW0:=zbt b6 hb0;obtain⟨p0,p1⟩:=zc2 kW;refine zqp ?_;refine zqT (fun w hbw hd => ?_) ?_
   ·have q1:=cell_keep hbw p1 zW
    exact zgs
   refine zqp ?_;refine zqp ?_;refine zqp ?_;refine zqp ?_;refine zqp ?_;refine zqc (fun w hbw hd K Q' hK => ?_) ?_
   ·clear hd
    go_simp;refine (bkHas_any b M n s k _ ((HK.out.ext bW0).ext hbw) (by omega)).mono ?_;rintro e y ⟨rfl,rfl⟩;go_wp2_with fail;exact hK.out _ _ _ zpt zbm rfl
   refine zqp ?_;refine zql ?_;refine chn_end (fun wz lo hi hbz hd hR => ?_);obtain⟨wz2,rfl⟩:∃ x,x=wz:=⟨_,rfl⟩;have hzz:=hbz.size;have oI7:=(oI6.ext hb0).ext hbz;have oB7:=(oB6.ext hb0).ext hbz;have kS7:=kW.below_ hbz zW;have kR7:=kR6.below_ (hb0.trans (hbz.mono hz0w)) kR6.lt;have b7:Below w.heap.size w wz2:=b6.trans ((hb0.trans (hbz.mono hz0w)).mono b6.size);obtain⟨d0,df,dl⟩:=oB7.cell1 rfl (rowF_at s.busy false (by omega)) rfl;clear hd hR p0 p1;refine late_one (by simp only[zy5,zy6,zy7];rfl) (fun K Q' hK => ?_);go_simp;refine hK.out _ ?_;clear hK K Q';go_wp2_with fail
   have hbB:OwnR boolE (wz2.setCell ⟨gB,k,none⟩ (.bool (bsyT s k))) (w.heap.size+1) (.slice (some ⟨gB,0,none⟩) n n) (rowF s.busy false (k+1)):=by
    have h:=oB7.set1 (i:=k) rfl (by rw[rowF_len _ _ (by omega)];omega) (bsyT s k) (v:=.bool (bsyT s k)) rfl;rw[rowF_set s.busy false (x:=bsyT s k) (by unfold bsyT;rw[List.getD_eq_getElem?_getD,List.getElem?_eq_getElem (by omega)];rfl)] at h;exact h
   exact⟨⟨k+1,by omega,by go_num,kS7.far_ (by exact fun e=>neB e.symm) _,oI7.far' (by exact hne) _,hbB,kR7.far_ (by show w.heap.size≠gB;omega) _,b7.setCell (p:=⟨gB,k,none⟩) (by show w.heap.size≤gB;omega) _⟩,by simp[intOf];omega⟩
  ·obtain rfl:k=n:=by omega
   have mI':w.heap.size+1≤gI:=(HOI.out.block).1;have mB':w.heap.size+1≤gB:=(HOB.out.block).1;have r0:=zc kS 0;have r1:=zc kS 1;have t0:=zc kR2 0;have t1:=zc kR2 1;obtain⟨tf0,tf1,-⟩:=zf kR2;have zR:=kR2.lt;go_wp2_with fail;obtain⟨W,hW⟩:∃ W,(wr.setCell ⟨w.heap.size,0,none⟩ (.slice (some ⟨gI,0,none⟩) k k)).setCell ⟨w.heap.size,1,none⟩ (.slice (some ⟨gB,0,none⟩) k k)=W:=⟨_,rfl⟩;have kW:Blk W (w.heap.size) 25 #[.slice (some ⟨gI,0,none⟩) k k,.slice (some ⟨gB,0,none⟩) k k]:=by rw[←hW];exact((kR2.set_ 0 _).set_ 1 _)
   have bW:Below w.heap.size w W:=by rw[←hW];exact zbl
   have oI8:OwnR intE W (w.heap.size+1) (.slice (some ⟨gI,0,none⟩) k k) (rowF s.refs 0 k):=by rw[←hW];exact(HOI.out.far' (by show gI≠w.heap.size;omega) _).far' (by show gI≠w.heap.size;omega) _
   have oB8:OwnR boolE W (w.heap.size+1) (.slice (some ⟨gB,0,none⟩) k k) (rowF s.busy false k):=by rw[←hW];exact(HOB.out.far' (by show gB≠w.heap.size;omega) _).far' (by show gB≠w.heap.size;omega) _
   rw[hW];clear hW r0 r1 t0 t1;refine bodyPost_ret (by simp[results,Tryz.results149,go_sem,zc2 kW] <;> rfl) rfl ?_;rw[rowF_all _ _ hn.symm] at oI8;rw[rowF_all _ _ hbl.symm] at oB8;refine⟨some ⟨gI,0,none⟩,k,some ⟨gB,0,none⟩,k,?_,?_,?_,bW⟩
   ·unfold stV
    rw[hn,hbl]
   ·exact OwnE.of_own (oI8.base_ (by omega)) hn.symm
   ·exact OwnE.of_own (oB8.base_ (by omega)) hbl.symm
theorem Blk.kept{w w':World}{b:Nat}{t:TypeId}{cs:Array Value}{row:Option Nat}(h:Blk w b t cs)(hg:w.grownBy w' row)(hne:some b≠row):Blk w' b t cs:=(hg.block b h.lt hne).trans h
def preS(s:Sts)(k:Nat):Sts:=⟨s.refs.take k,s.busy.take k⟩
theorem refT_pre{s:Sts}{k i:Nat}:refT (preS s k) i=if i<k then refT s i else 0:=by
 unfold refT preS;simp only[List.getD_eq_getElem?_getD,List.getElem?_take]
 split <;> rfl
theorem bsyT_pre{s:Sts}{k i:Nat}:bsyT (preS s k) i=if i<k then bsyT s i else false:=by
 unfold bsyT preS;simp only[List.getD_eq_getElem?_getD,List.getElem?_take]
 split <;> rfl
theorem bsyT_next{s:Sts}{k i:Nat}:bsyT (preS s (k+1)) i=if i=k then bsyT s k else bsyT (preS s k) i:=by
 rw[bsyT_pre,bsyT_pre]
 by_cases e:i=k
 ·subst e
  rw[if_pos (Nat.lt_succ_self _),if_pos rfl]
 ·rw[if_neg e]
  by_cases h2:i<k
  ·rw[if_pos (show i<k+1 by omega),if_pos h2]
  ·rw[if_neg (show ¬ i<k+1 by omega),if_neg h2]
theorem mR_eq{a b:Sts}{j:Int}(e:refT a j.toNat=refT b j.toNat):mR a j=mR b j:=by unfold mR;rw[e]
theorem mR_zero(s:Sts):mR (preS s 0)=fun _=>none:=by
 funext j
 have e:refT (preS s 0) j.toNat=0:=by rw[refT_pre,if_neg (Nat.not_lt_zero _)]
 unfold mR;rw[e,if_neg (by simp)]
theorem refT_next{s:Sts}{k i:Nat}(h:i≠k∨refT s k=0):refT (preS s (k+1)) i=refT (preS s k) i:=by
 rw[refT_pre,refT_pre]
 by_cases e:i=k
 ·subst e
  rw[if_pos (Nat.lt_succ_self _),if_neg (Nat.lt_irrefl _)]
  rcases h with h | h
  ·exact absurd rfl h
  ·exact h
 ·by_cases h2:i<k
  ·rw[if_pos (show i<k+1 by omega),if_pos h2]
  ·rw[if_neg (show ¬ i<k+1 by omega),if_neg h2]
theorem mR_skip{s:Sts}{k:Nat}(h:refT s k=0):mR (preS s (k+1))=mR (preS s k):=funext fun j=>mR_eq (refT_next (.inr h))
theorem mR_put{s:Sts}{k:Nat}(h:refT s k≠0):mR (preS s (k+1))=fun (j:Int)=>if j=(k:Int) then some (refT s k) else mR (preS s k) j:=by
 funext j
 by_cases e:j=k
 ·subst e
  have e2:refT (preS s (k+1)) (k:Int).toNat=refT s k:=by rw[Int.toNat_natCast,refT_pre,if_pos (Nat.lt_succ_self _)]
  rw[if_pos rfl];unfold mR;rw[e2,if_pos ⟨by omega,h⟩]
 ·rw[if_neg e]
  by_cases h0:0≤j
  ·exact mR_eq (refT_next (.inl (by omega)))
  ·unfold mR
   rw[if_neg (fun h=>h0 h.1),if_neg (fun h=>h0 h.1)]
def bkV(n M x:Nat):Value:=.agg #[.int .i64 n,.map (some M),.int .u64 (x:Int),.int .u64 0,.int .u64 0,.int .u64 0]
def BkF(s:Sts)(M x:Nat)(w:World):Prop:=∃ cnt,MapT refM w M cnt (mR s)∧cnt≤99∧x<18446744073709551616∧∀ j,x.testBit j=bsyT s j
def OpPost(s:Sts)(w:World)(e:Ending)(w':World):Prop:=∃ M x,e=.returned (bkV s.refs.length M x)∧BkF s M x w'∧w.heap.size≤M∧Below w.heap.size w w'
theorem open_any(A B:Option Addr)(c d:Nat)(s:Sts)(w:World)(ha:SR intE w A s.refs)(hb:SR boolE w B s.busy)(hl:s.refs.length≤40)(hbl:s.busy.length=s.refs.length)(hr:∀ r ∈ s.refs,0≤r∧r≤512) :
  Calls Tryz.prog 156 #[stV A c B d s] w (OpPost s w):=by
 obtain⟨n,hn⟩:∃ n,s.refs.length=n:=⟨_,rfl⟩;have HA:=Lib.hid ha.sl;have HB:=Lib.hid hb;have HR:=Lib.hid hr;have HN:=Lib.hid hn;have HBL:=Lib.hid hbl;unfold stV;rw[hbl,hn];rw[hn] at hl;have hmm:=@run_makeMap Tryz.prog;clear ha hb hr hbl hn
 go_enter Tryz.func156,Tryz.ntmps156
 go_wp2_with fail;obtain⟨V,hV⟩:∃ V,(((w.alloc (.cells #[.slice A n c,.slice B n d] 25)).alloc (.cells #[.int .i64 0,.map none,.int .u64 0,.int .u64 0,.int .u64 0,.int .u64 0] 180)).alloc (.map #[] 0)).alloc (.cells #[.int .i64 n,.map (some (w.heap.size+2)),.int .u64 0,.int .u64 0,.int .u64 0,.int .u64 0] 180)=V:=⟨_,rfl⟩;have kS:Blk V w.heap.size 25 #[.slice A n c,.slice B n d]:=by rw[←hV];exact zbk
 have kR:Blk V (w.heap.size+1) 180 #[.int .i64 0,.map none,.int .u64 0,.int .u64 0,.int .u64 0,.int .u64 0]:=by rw[←hV];exact zbk
 have kB:Blk V (w.heap.size+3) 180 #[.int .i64 n,.map (some (w.heap.size+2)),.int .u64 0,.int .u64 0,.int .u64 0,.int .u64 0]:=by rw[←hV];exact Blk.new_ (by simp) rfl
 have hM:MapT refM V (w.heap.size+2) 0 (mR (preS s 0)):=by
  rw[mR_zero,←hV];have h:=MapT.new_ (T:=refM) ((w.alloc (.cells #[.slice A n c,.slice B n d] 25)).alloc (.cells #[.int .i64 0,.map none,.int .u64 0,.int .u64 0,.int .u64 0,.int .u64 0] 180));have h2:=h.ext ((Below.refl _ _).alloc (Nat.le_refl _) (.cells #[.int .i64 n,.map (some (w.heap.size+2)),.int .u64 0,.int .u64 0,.int .u64 0,.int .u64 0] 180));simpa using h2
 have BV:Below w.heap.size w V:=by rw[←hV];exact zbl
 have hxb0:∀ j,(0:Nat).testBit j=bsyT (preS s 0) j:=fun j=>by rw[bsyT_pre,if_neg (Nat.not_lt_zero _)];simp
 rw[hV];clear hV
 go_loopw [14] (fun i wr=>∃ (k x cnt:Nat),k≤n∧i=.int .i64 k∧Blk wr w.heap.size 25 #[.slice A n c,.slice B n d]∧Blk wr (w.heap.size+1) 180 #[.int .i64 0,.map none,.int .u64 0,.int .u64 0,.int .u64 0,.int .u64 0]∧Blk wr (w.heap.size+3) 180 #[.int .i64 n,.map (some (w.heap.size+2)),.int .u64 (x:Nat),.int .u64 0,.int .u64 0,.int .u64 0]∧Hid (MapT refM wr (w.heap.size+2) cnt (mR (preS s k)))∧(cnt≤k∧x<18446744073709551616)∧Hid (∀ j,x.testBit j=bsyT (preS s k) j)∧Below w.heap.size w wr) (fun i _=>n - (intOf i).toNat)
 case atStart=>exact⟨0,0,0,by omega,rfl,kS,kR,kB,hM,⟨by omega,by decide⟩,hxb0,BV⟩
 case round=>
  clear kS kR kB hM BV hxb0;obtain⟨k,x,cnt,hk,rfl,kS,kR,kB,HM,⟨hcn,hx⟩,HXB,hb⟩:=hrel;obtain⟨q0,q1⟩:=zc2 kS;obtain⟨-,g1,-⟩:=zc6 kB;have zB:=kB.lt;have zS:=kS.lt
  by_cases hlt:k<n
  ·have i1:(k:Int)<n:=by omega
   obtain⟨b1,o1,r,e1,hl1,hr1,q5⟩:=(HA.out.ext hb).at_ (k:=k) (by rw[HN.out];exact hlt);subst e1;have HRT:Hid (refT s k=r):=by show _=_;unfold refT;rw[List.getD_eq_getElem?_getD,hr1];rfl
   have hr2:=HR.out r (List.mem_of_getElem? hr1);have HWK:Hid ((Lit.int .i64 (k:Int)).wf=true):=wf_i (by omega);have hwf:(Lit.int .i64 r).wf=true:=wf_i (by omega);obtain⟨b2,o2,y,e2,hlb2,hy1,hy2⟩:=HB.out.at_ (k:=k) (by rw[HBL.out,HN.out];exact hlt);subst e2;have HBV:Hid (bsyT s k=y):=by show _=_;unfold bsyT;rw[List.getD_eq_getElem?_getD,hy1];rfl
   have HY:Hid (w.cell? ⟨b2,o2+k,none⟩=some (.bool y)):=by show _=_;have:=hy2 0 (.bool y) rfl;simpa [boolE] using this
   clear hr1 hy1 hy2 hr2
   by_cases r0:r=0
   ·have HR0:=Lib.hid r0
    have r0b:(r != 0)=false:=by simpa using r0
    clear r0
    cases y
    ·skip
     have u1:=cell_keep hb HY.out hlb2;have u3:b2<wr.heap.size:=Nat.lt_of_lt_of_le hlb2 hb.size;go_wp2_with fail;have HM4:Hid (MapT refM wr (w.heap.size+2) cnt (mR (preS s (k+1)))):=by show MapT _ _ _ _ _;rw[mR_skip (by rw[HRT.out];exact HR0.out)];exact HM.out
     have hcn:cnt≤k+1:=by omega
     exact⟨⟨k+1,x,cnt,by omega,by go_num,kS,kR,kB,HM4.out,⟨hcn,hx⟩,(by show ∀ j,_;intro j;rw[bsyT_next,HBV.out,HXB.out];split;(rename_i e;rw[e,bsyT_pre,if_neg (Nat.lt_irrefl _)]);rfl),hb⟩,by simp[intOf];omega⟩
    ·skip
     have u1:=cell_keep hb HY.out hlb2;have u3:b2<wr.heap.size:=Nat.lt_of_lt_of_le hlb2 hb.size;go_wp2_with fail;have HM4:Hid (MapT refM wr (w.heap.size+2) cnt (mR (preS s (k+1)))):=by show MapT _ _ _ _ _;rw[mR_skip (by rw[HRT.out];exact HR0.out)];exact HM.out
     have hcn:cnt≤k+1:=by omega
     have v2:=zc kB 2;refine (put_any (w.heap.size+3) 2 x k true _ v2 (kB.frozen_ 2) hx (by omega) kB.lt).mono ?_;rintro e5 w5 ⟨rfl,w6,hb6,rfl⟩;go_wp2_with fail;have l4:=hb.size;have s6:=hb6.size;have m6:w.heap.size+3<wr.heap.size:=kB.lt;exact⟨⟨k+1,putN x k true,cnt,by omega,by go_num,(kS.below_ hb6 (by omega)).far_ (by show w.heap.size≠w.heap.size+3;omega) _,(kR.below_ hb6 (by omega)).far_ (by show w.heap.size+1≠w.heap.size+3;omega) _,by simpa using (kB.below_ hb6 m6).set_ 2 (.int .u64 (putN x k true:Nat)),(HM4.out.ext hb6).far_ _ (by show w.heap.size+3≠w.heap.size+2;omega),⟨hcn,putN_lt hx (by omega)⟩,(by show ∀ j,_;intro j;rw[putN_bit hx,bsyT_next,HBV.out,HXB.out]),(hb.trans (hb6.mono l4)).setCell (p:=⟨w.heap.size+3,2,none⟩) (by show w.heap.size≤w.heap.size+3;omega) _⟩,by simp[intOf];omega⟩
   ·have HR0:=Lib.hid r0
    have r0b:(r != 0)=true:=by simpa using r0
    clear r0
    cases y
    ·skip
     go_wp2_with (first | (at_mapUpdate;refine wpList_putRf _ rfl _ _ _ rfl (w.heap.size+2) cnt (mR (preS s k)) rfl HM.out (by unfold maxLen;omega) (k:Int) r rfl rfl HWK.out hwf ?_;intro w4 hm4 hg4 hs4;have k4S:=kS.kept hg4 (by simp);have k4B:=kB.kept hg4 (by simp);have k4R:=kR.kept hg4 (by simp);have B4:Below w.heap.size w w4:=below_grown hb hg4 (by omega);have u0:w4.cell? ⟨w.heap.size,1,none⟩=some (.slice (some ⟨b2,o2,none⟩) n d):=(by simpa using k4S.cell_ 1);have u1:=cell_keep B4 HY.out hlb2;have u2:=k4S.lt;have u3:b2<w4.heap.size:=Nat.lt_of_lt_of_le hlb2 B4.size))
     have HM4:Hid (MapT refM w4 (w.heap.size+2) (cnt+1) (mR (preS s (k+1)))):=by show MapT _ _ _ _ _;rw[mR_put (by rw[HRT.out];exact HR0.out),HRT.out];exact hm4
     have hcn:cnt+1≤k+1:=by omega
     exact⟨⟨k+1,x,cnt+1,by omega,by go_num,k4S,k4R,k4B,HM4.out,⟨hcn,hx⟩,(by show ∀ j,_;intro j;rw[bsyT_next,HBV.out,HXB.out];split;(rename_i e;rw[e,bsyT_pre,if_neg (Nat.lt_irrefl _)]);rfl),B4⟩,by simp[intOf];omega⟩
    ·skip
     go_wp2_with (first | (at_mapUpdate;refine wpList_putRf _ rfl _ _ _ rfl (w.heap.size+2) cnt (mR (preS s k)) rfl HM.out (by unfold maxLen;omega) (k:Int) r rfl rfl HWK.out hwf ?_;intro w4 hm4 hg4 hs4;have k4S:=kS.kept hg4 (by simp);have k4B:=kB.kept hg4 (by simp);have k4R:=kR.kept hg4 (by simp);have B4:Below w.heap.size w w4:=below_grown hb hg4 (by omega);have u0:w4.cell? ⟨w.heap.size,1,none⟩=some (.slice (some ⟨b2,o2,none⟩) n d):=(by simpa using k4S.cell_ 1);have u1:=cell_keep B4 HY.out hlb2;have u2:=k4S.lt;have u3:b2<w4.heap.size:=Nat.lt_of_lt_of_le hlb2 B4.size))
     have HM4:Hid (MapT refM w4 (w.heap.size+2) (cnt+1) (mR (preS s (k+1)))):=by show MapT _ _ _ _ _;rw[mR_put (by rw[HRT.out];exact HR0.out),HRT.out];exact hm4
     have hcn:cnt+1≤k+1:=by omega
     have v2:=zc k4B 2;refine (put_any (w.heap.size+3) 2 x k true _ v2 (k4B.frozen_ 2) hx (by omega) k4B.lt).mono ?_;rintro e5 w5 ⟨rfl,w6,hb6,rfl⟩;go_wp2_with fail;have l4:=B4.size;have s6:=hb6.size;have m6:w.heap.size+3<w4.heap.size:=k4B.lt;exact⟨⟨k+1,putN x k true,cnt+1,by omega,by go_num,(k4S.below_ hb6 (by omega)).far_ (by show w.heap.size≠w.heap.size+3;omega) _,(k4R.below_ hb6 (by omega)).far_ (by show w.heap.size+1≠w.heap.size+3;omega) _,by simpa using (k4B.below_ hb6 m6).set_ 2 (.int .u64 (putN x k true:Nat)),(HM4.out.ext hb6).far_ _ (by show w.heap.size+3≠w.heap.size+2;omega),⟨hcn,putN_lt hx (by omega)⟩,(by show ∀ j,_;intro j;rw[putN_bit hx,bsyT_next,HBV.out,HXB.out]),(B4.trans (hb6.mono l4)).setCell (p:=⟨w.heap.size+3,2,none⟩) (by show w.heap.size≤w.heap.size+3;omega) _⟩,by simp[intOf];omega⟩
  ·obtain rfl:k=n:=by omega
   have zR:=kR.lt;clear g1;obtain⟨r0,r1,r2,r3,r4,r5⟩:=zc6 kB;obtain⟨t0,t1,t2,t3,t4,t5⟩:=zc6 kR;obtain⟨tf0,tf1,tf2,tf3,tf4,tf5,-⟩:=zf kR;go_wp2_with fail;obtain⟨W,hW⟩:∃ W,(((((wr.setCell ⟨w.heap.size+1,0,none⟩ (.int .i64 k)).setCell ⟨w.heap.size+1,1,none⟩ (.map (some (w.heap.size+2)))).setCell ⟨w.heap.size+1,2,none⟩ (.int .u64 (x:Nat))).setCell ⟨w.heap.size+1,3,none⟩ (.int .u64 0)).setCell ⟨w.heap.size+1,4,none⟩ (.int .u64 0)).setCell ⟨w.heap.size+1,5,none⟩ (.int .u64 0)=W:=⟨_,rfl⟩;have kW:Blk W (w.heap.size+1) 180 #[.int .i64 k,.map (some (w.heap.size+2)),.int .u64 (x:Nat),.int .u64 0,.int .u64 0,.int .u64 0]:=by rw[←hW];exact((((((kR.set_ 0 _).set_ 1 _).set_ 2 _).set_ 3 _).set_ 4 _).set_ 5 _)
   have bW:Below w.heap.size w W:=by rw[←hW];exact zbl
   have HM8:MapT refM W (w.heap.size+2) cnt (mR (preS s k)):=by rw[←hW];exact((((((HM.out).far_ _ (by show w.heap.size+1≠w.heap.size+2;omega)).far_ _ (by show w.heap.size+1≠w.heap.size+2;omega)).far_ _ (by show w.heap.size+1≠w.heap.size+2;omega)).far_ _ (by show w.heap.size+1≠w.heap.size+2;omega)).far_ _ (by show w.heap.size+1≠w.heap.size+2;omega)).far_ _ (by show w.heap.size+1≠w.heap.size+2;omega)
   rw[hW];clear hW r0 r1 r2 r3 r4 r5 t0 t1 t2 t3 t4 t5;refine bodyPost_ret (by simp[results,Tryz.results156,go_sem,zc6 kW] <;> rfl) rfl ?_
   have hpre:preS s k=s:=by
    unfold preS;rw[List.take_of_length_le (by rw[HN.out];exact Nat.le_refl _),List.take_of_length_le (by rw[HBL.out,HN.out];exact Nat.le_refl _)]
   rw[hpre] at HM8;have hxx:=HXB.out;rw[hpre] at hxx;refine⟨w.heap.size+2,x,?_,⟨cnt,HM8,by omega,hx,hxx⟩,by omega,bW⟩;unfold bkV;rw[HN.out]
def fstI(s:Sts):Int:=match fstT s with
 | none => -1
 | some i=>(i:Int)
theorem fstI_none{s:Sts}(h:∀ j,j<s.refs.length→freT s j=false):fstI s = -1:=by
 have e:fstT s=none:=by
  unfold fstT;rw[List.find?_eq_none];intro x hx;rw[h x (List.mem_range.1 hx)];simp
 unfold fstI;rw[e]
theorem fstI_some{s:Sts}{i:Nat}(h:∀ j,j<i→freT s j=false)(hi:i<s.refs.length)(hf:freT s i=true):fstI s=i:=by
 have e:fstT s=some i:=by
  unfold fstT;rw[List.find?_eq_some_iff_getElem];refine⟨hf,i,by simpa using hi,by simp,fun j hj => ?_⟩;simp only[List.getElem_range];rw[h j hj];simp
 unfold fstI;rw[e]
theorem low_bit(x i:Nat)(hx:x<18446744073709551616):(bits BinOp.and IntKind.u64 ((x:Int) / 2 ^ i) 1 == 0) = !x.testBit i:=by
 rw[show (x:Int) / 2 ^ i=((x / 2 ^ i:Nat):Int) by simp,show (1:Int)=((1:Nat):Int) from rfl,bits_and_u64_nat _ _ (Nat.lt_of_le_of_lt (Nat.div_le_self _ _) hx) (by decide),←and_one']
 rcases Nat.mod_two_eq_zero_or_one (x / 2 ^ i) with h | h
 ·simp[Nat.and_one_is_mod,h]
 ·simp[Nat.and_one_is_mod,h]
theorem mix0(a b c d:Value)(w:World):(Instr.index 178 (.agg #[a,b,c,d]) (.int .i64 0)).run Tryz.prog w=.ok a w:=by kernel_rfl
theorem first_any(b M n:Nat)(s:Sts)(w:World)(h:BK w b M n s)(hn:s.refs.length=n)(hl:n≤40) :
  Calls Tryz.prog 157 #[.pointer (some ⟨b,0,none⟩)] w fun e w'=>e=.returned (.int .i64 (fstI s))∧Below w.heap.size w w':=by
 have HK:=Lib.hid h;have HN:=Lib.hid hn
 have q0:w.cell? ⟨b,0,none⟩=some (.int .i64 (n:Int)):=by
  obtain⟨x,cnt,⟨kB,_⟩,_⟩:=h;simpa using kB.cell_ 0
 have hlB:b<w.heap.size:=by
  obtain⟨x,cnt,⟨kB,_⟩,_⟩:=h;exact kB.lt
 clear h hn
 go_enter Tryz.func157,Tryz.ntmps157
 go_wp2
 go_step3
 go_wp2_with fail;obtain⟨V,hV⟩:∃ V,w.alloc (.cells #[.int .u64 0,.int .u64 0,.int .u64 0,.int .u64 0] 178)=V:=⟨_,rfl⟩;have kM:=za hV;have BV:Below w.heap.size w V:=by rw[←hV];exact zbl
 rw[hV];clear hV;have qV:=cell_keep BV q0 hlB
 go_loopw [14] (fun i wr=>∃ (k x:Nat),k≤n∧i=.int .i64 k∧Blk wr w.heap.size 178 #[.int .u64 (x:Nat),.int .u64 0,.int .u64 0,.int .u64 0]∧x<18446744073709551616∧Hid (∀ j,x.testBit j=(decide (j<k) && !freT s j))∧Below w.heap.size w wr) (fun i _=>n - (intOf i).toNat)
 case atStart=>exact⟨0,0,by omega,rfl,kM,by decide,fun j=>by simp,BV⟩
 case round=>
  clear kM BV qV;obtain⟨k,x,hk,rfl,kM,hx,HX,hb⟩:=hrel;have zb:b<wr.heap.size:=Nat.lt_of_lt_of_le hlB hb.size;have zM:=kM.lt
  by_cases hlt:k<n
  ·have i1:(k:Int)<n:=by omega
   go_wp2_with fail;refine (free_any b M n s k wr (HK.out.ext hb) (by omega)).mono ?_;rintro e5 w5 ⟨rfl,rfl⟩;go_wp2_with fail;have g0:=zc kM 0;refine (put_any w.heap.size 0 x k (!freT s k) wr g0 (kM.frozen_ 0) hx (by omega) zM).mono ?_;rintro e6 w6 ⟨rfl,w7,hb7,rfl⟩;go_wp2_with fail;have hsz:=hb.size;refine⟨⟨k+1,putN x k (!freT s k),by omega,by go_num,by simpa using (kM.below_ hb7 zM).set_ 0 (.int .u64 (putN x k (!freT s k):Nat)),putN_lt hx (by omega),?_,(hb.trans (hb7.mono hsz)).setCell (p:=⟨w.heap.size,0,none⟩) (by show w.heap.size≤w.heap.size;omega) _⟩,by simp[intOf];omega⟩;intro j;rw[putN_bit hx,HX.out]
   by_cases e:j=k
   ·subst e;simp
   ·rw[if_neg e]
    have:(j<k+1)↔j<k:=by omega
    simp[this]
  ·obtain rfl:k=n:=by omega
   have q5:=cell_keep hb q0 hlB;obtain⟨g0,g1,g2,g3⟩:=zc4 kM
   have HLB:∀ i:Nat,i<k→Hid ((bits BinOp.and IntKind.u64 ((x:Int) / 2 ^ i) 1 == 0)=freT s i):=fun i hi=>by
    show _=_;rw[low_bit x i hx,HX.out];simp[hi]
   have hix:=mix0 (.int .u64 (x:Int)) (.int .u64 0) (.int .u64 0) (.int .u64 0);obtain⟨wo,rfl⟩:∃ wo,wo=wr:=⟨_,rfl⟩;go_wp2_with fail
   go_step3
   go_wp2_with fail
   go_loopw [25,5] (fun i f wq=>∃ j:Int,(j=0∧0≤j)∧i=.int .i64 j∧f=.int .i64 (-1)∧wq=wo) (fun i _ _=>1 - (intOf i).toNat)
   case atStart=>exact⟨0,by simp,by simp,by simp,by simp⟩
   case round=>
    obtain⟨j,⟨rfl,_⟩,rfl,rfl,rfl⟩:=hrel;go_wp2_with fail
    go_loopw [29,5] (fun i f wq=>∃ j:Nat,j≤k∧Hid (∀ m,m<j→freT s m=false)∧i=.int .i64 j∧f=.int .i64 (-1)∧wq=wr) (fun i _ _=>64 - (intOf i).toNat)
    case atStart=>exact⟨0,by omega,(fun m hm=>by omega),by simp,by simp,by simp⟩
    case round=>
     obtain⟨j,hj,HJ,rfl,rfl,rfl⟩:=hrel
     by_cases hjk:j<k
     ·have i2:(j:Int)<k:=by omega
      have i3:(j:Int)<64:=by omega
      have hw3:IntKind.u64.wrap (j:Int)=j:=by rw[IntKind.wrap_u64];omega
      have hw4:min ((j:Int)).toNat 64=j:=by omega
      have hbt:=(HLB j hjk).out
      cases hf:freT s j
      ·rw[hf] at hbt
       have HJ2:Hid (∀ m,m<j+1→freT s m=false):=fun m hm=>by
        by_cases e:m=j
        ·rw[e,hf]
        ·exact HJ.out m (by omega)
       clear hf;go_wp2_with fail
       go_roundw
       case rel=>exact⟨j+1,by omega,HJ2.out,by go_num,by simp,by simp⟩
       case measure=>simp[intOf];omega
      ·rw[hf] at hbt
       have HF:Hid (fstI s=j):=fstI_some HJ.out (by rw[HN.out];exact hjk) hf;clear hf;go_wp2_with fail;rw[Exit.noGoto_ret];go_ret;exact⟨by rw[HF.out];rfl,hb⟩
     ·obtain rfl:j=k:=by omega
      have i3:(j:Int)<64:=by omega
      have HF:Hid (fstI s = -1):=fstI_none fun m hm=>HJ.out m (by have:=HN.out;omega)
      go_wp2_with fail;rw[Exit.noGoto_ret];go_ret;exact⟨by rw[HF.out];rfl,hb⟩
theorem BkF.far_{s:Sts}{M x:Nat}{w:World}(h:BkF s M x w){p:Addr}(u:Value)(hg:p.block≠M):BkF s M x (w.setCell p u):=by
 obtain⟨cnt,h1,h2⟩:=h;exact⟨cnt,h1.far_ u hg,h2⟩
theorem BkF.ext{s:Sts}{M x:Nat}{w w':World}(h:BkF s M x w)(hb:Below w.heap.size w w'):BkF s M x w':=by
 obtain⟨cnt,h1,h2⟩:=h;exact⟨cnt,h1.ext hb,h2⟩
theorem find_at{l:List Int}{k:Nat}{x:Int}(hx:l[k]? = some x)(hp:∀ j y,j<k→l[j]? = some y→0≤y∧y≤512)(h:x<0∨512<x):l.findIdx? (fun r=>decide (r<0∨512<r))=some k:=by
 obtain⟨hk,rfl⟩:=List.getElem?_eq_some_iff.1 hx;rw[List.findIdx?_eq_some_iff_getElem];refine⟨hk,by simpa using h,fun j hj => ?_⟩;have:=hp j l[j] hj (List.getElem?_eq_getElem (by omega));simp;omega
theorem find_no{l:List Int}(hp:∀ j y,j<l.length→l[j]? = some y→0≤y∧y≤512):l.findIdx? (fun r=>decide (r<0∨512<r))=none:=by
 rw[List.findIdx?_eq_none_iff];intro x hx;obtain⟨j,hj⟩:=List.getElem?_of_mem hx;have:=hp j x (List.getElem?_eq_some_iff.1 hj).1 hj;simp;omega
theorem sCheck_any(A B:Option Addr)(c d:Nat)(s:Sts)(w:World)(ha:SR intE w A s.refs)(la:s.refs.length≤1000)(lb:s.busy.length≤1000){z:Int}{k0:Nat}(h:chkT s=(z,k0)) :
  Calls Tryz.prog 59 #[stV A c B d s] w fun e w'=>e=.returned (.tuple #[.int .i64 z,.int .i64 k0])∧Below w.heap.size w w':=by
 obtain⟨refs,busy⟩:=s;dsimp only at *;have HA:=Lib.hid ha.sl;obtain⟨n,hn⟩:∃ n,refs.length=n:=⟨_,rfl⟩;obtain⟨m,hm⟩:∃ m,busy.length=m:=⟨_,rfl⟩;unfold stV;unfold chkT at h;dsimp only at h ⊢;rw[hn,hm] at h ⊢;have HN:=Lib.hid hn;rw[hn] at la;rw[hm] at lb;clear ha hn hm
 by_cases h1:n<1
 ·rw[if_pos (.inl h1)] at h
  cases h
  have i1:(n:Int)<1:=by omega
  go_enter Tryz.func59,Tryz.ntmps59
  go_wp2_with fail;refine bodyPost_ret (by simp[results,Tryz.results59,go_sem] <;> rfl) rfl ?_;exact⟨rfl,zbl⟩
 ·by_cases h2:256<n
  ·rw[if_pos (.inr h2)] at h
   cases h
   have i1:¬ (n:Int)<1:=by omega
   have i2:(256:Int)<n:=by omega
   go_enter Tryz.func59,Tryz.ntmps59
   go_wp2_with fail;refine bodyPost_ret (by simp[results,Tryz.results59,go_sem] <;> rfl) rfl ?_;exact⟨rfl,zbl⟩
  ·rw[if_neg (by omega)] at h
   have i1:¬ (n:Int)<1:=by omega
   have i2:¬ (256:Int)<n:=by omega
   by_cases h3:m≠n
   ·rw[if_pos h3] at h
    cases h
    have i3:((m:Int) != (n:Int))=true:=by simp;omega
    go_enter Tryz.func59,Tryz.ntmps59
    go_wp2_with fail;refine bodyPost_ret (by simp[results,Tryz.results59,go_sem] <;> rfl) rfl ?_;exact⟨rfl,zbl⟩
   ·rw[if_neg h3] at h
    obtain rfl:m=n:=by omega
    have HH:Hid ((match refs.findIdx? (fun r=>decide (r<0∨512<r)) with | none=>((0:Int),0) | some i=>(15,i))=(z,k0)):=h;clear h
    go_enter Tryz.func59,Tryz.ntmps59
    go_wp2_with fail;obtain⟨V,hV⟩:∃ V,w.alloc (.cells #[.slice A m c,.slice B m d] 25)=V:=⟨_,rfl⟩;have BV:Below w.heap.size w V:=by rw[←hV];exact zbl
    rw[hV];clear hV
    go_loopw [26] (fun i wr=>∃ k:Nat,k≤m∧i=.int .i64 k∧Hid (∀ j y,j<k→refs[j]? = some y→0≤y∧y≤512)∧Below w.heap.size w wr) (fun i _=>m - (intOf i).toNat)
    case atStart=>exact⟨0,by omega,rfl,(fun j y hj=>by omega),BV⟩
    case round=>
     obtain⟨k,hk,rfl,HR,hb⟩:=hrel
     by_cases hlt:k<m
     ·obtain⟨b,off,x,rfl,hbl,hx,q0⟩:=(HA.out.ext hb).at_ (k:=k) (by rw[HN.out];exact hlt)
      have i3:(k:Int)<m:=by omega
      by_cases e1:x<0
      ·have hc:=HH.out
       rw[find_at hx HR.out (.inl e1)] at hc
       cases hc
       go_wp2_with fail;refine bodyPost_ret (by simp[results,Tryz.results59,go_sem] <;> rfl) rfl ?_;exact⟨rfl,hb⟩
      ·by_cases e2:512<x
       ·have hc:=HH.out
        rw[find_at hx HR.out (.inr e2)] at hc
        cases hc
        go_wp2_with fail;refine bodyPost_ret (by simp[results,Tryz.results59,go_sem] <;> rfl) rfl ?_;exact⟨rfl,hb⟩
       ·have HR2:Hid (∀ j y,j<k+1→refs[j]? = some y→0≤y∧y≤512):=fun j y hj hy=>by
         by_cases e:j=k
         ·rw[e,hx] at hy;cases hy;omega
         ·exact HR.out j y (by omega) hy
        clear hx;go_wp2_with fail
        go_roundw
        case rel=>exact⟨k+1,by omega,by go_num,HR2.out,hb⟩
        case measure=>simp[intOf];omega
     ·obtain rfl:k=m:=by omega
      have hc:=HH.out;rw[find_no (fun j y hj=>HR.out j y (by have:=HN.out;omega))] at hc
      cases hc
      go_wp2_with fail;refine bodyPost_ret (by simp[results,Tryz.results59,go_sem] <;> rfl) rfl ?_;exact⟨rfl,hb⟩
def bkZ:Value:=.agg #[.int .i64 0,.map none,.int .u64 0,.int .u64 0,.int .u64 0,.int .u64 0]
theorem at_bad(A B:Option Addr)(c d:Nat)(s:Sts)(i:Int)(w:World)(ha:SR intE w A s.refs)(la:s.refs.length≤40)(lb:s.busy.length≤40){z:Int}(h:askT s i=z)(hz:z≠0) :
  Calls Tryz.prog 147 #[stV A c B d s,.int .i64 i] w fun e w'=>e=.returned (.tuple #[bkZ,.int .i64 z])∧Below w.heap.size w w':=by
 have HA:=Lib.hid ha;obtain⟨⟨y,k⟩,hk⟩:∃ r,chkT s=r:=⟨_,rfl⟩;have HZ:=Lib.hid hk;unfold askT at h;rw[hk] at h;dsimp only at h;unfold stV bkZ
 by_cases y0:y=0
 ·rw[if_neg (by simpa using y0)] at h
  subst y0;clear ha hk
  by_cases i0:i<0
  ·rw[if_pos (.inl i0)] at h
   subst h;have i2:decide (i<0)=true:=by simpa using i0
   go_enter Tryz.func147,Tryz.ntmps147
   go_wp2_with fail;have BX:Below w.heap.size w ((w.alloc (.cells #[.slice A s.refs.length c,.slice B s.busy.length d] 25)).alloc (.cells #[.int .i64 0,.map none,.int .u64 0,.int .u64 0,.int .u64 0,.int .u64 0] 180)):=zbl;refine (sCheck_any A B c d s _ (HA.out.ext BX) (by omega) (by omega) HZ.out).mono ?_;rintro e1 w1 ⟨rfl,hb1⟩;have B1:Below w.heap.size w w1:=BX.trans (hb1.mono (by simp;omega))
   have kS:Blk w1 w.heap.size 25 #[.slice A s.refs.length c,.slice B s.busy.length d]:=by refine Blk.below_ ?_ hb1 ?_ <;> first | exact Blk.alloc_ (Blk.new_ rfl rfl) _ | (simp;omega) | simp
   have kR:Blk w1 (w.heap.size+1) 180 #[.int .i64 0,.map none,.int .u64 0,.int .u64 0,.int .u64 0,.int .u64 0]:=by refine Blk.below_ ?_ hb1 ?_ <;> first | exact Blk.new_ (by simp) rfl | simp
   have zS:=kS.lt;have zR:=kR.lt;clear hb1 BX;obtain⟨q0,q1⟩:=zc2 kS;obtain⟨t0,t1,t2,t3,t4,t5⟩:=zc6 kR;obtain⟨tf0,tf1,tf2,tf3,tf4,tf5,-⟩:=zf kR;go_wp2_with fail;obtain⟨W,hW⟩:∃ W,(((((w1.setCell ⟨w.heap.size+1,0,none⟩ (.int .i64 0)).setCell ⟨w.heap.size+1,1,none⟩ (.map none)).setCell ⟨w.heap.size+1,2,none⟩ (.int .u64 0)).setCell ⟨w.heap.size+1,3,none⟩ (.int .u64 0)).setCell ⟨w.heap.size+1,4,none⟩ (.int .u64 0)).setCell ⟨w.heap.size+1,5,none⟩ (.int .u64 0)=W:=⟨_,rfl⟩;have kW:Blk W (w.heap.size+1) 180 #[.int .i64 0,.map none,.int .u64 0,.int .u64 0,.int .u64 0,.int .u64 0]:=by rw[←hW];exact((((((kR.set_ 0 _).set_ 1 _).set_ 2 _).set_ 3 _).set_ 4 _).set_ 5 _)
   have bW:Below w.heap.size w W:=by rw[←hW];exact zbl
   rw[hW];clear hW t0 t1 t2 t3 t4 t5;refine bodyPost_ret (by simp[results,Tryz.results147,go_sem,zc6 kW] <;> rfl) rfl ?_;exact⟨rfl,bW⟩
  ·by_cases i1:(s.refs.length:Int)≤i
   ·rw[if_pos (.inr i1)] at h
    subst h
    go_enter Tryz.func147,Tryz.ntmps147
    go_wp2_with fail;have BX:Below w.heap.size w ((w.alloc (.cells #[.slice A s.refs.length c,.slice B s.busy.length d] 25)).alloc (.cells #[.int .i64 0,.map none,.int .u64 0,.int .u64 0,.int .u64 0,.int .u64 0] 180)):=zbl;refine (sCheck_any A B c d s _ (HA.out.ext BX) (by omega) (by omega) HZ.out).mono ?_;rintro e1 w1 ⟨rfl,hb1⟩;have B1:Below w.heap.size w w1:=BX.trans (hb1.mono (by simp;omega))
    have kS:Blk w1 w.heap.size 25 #[.slice A s.refs.length c,.slice B s.busy.length d]:=by refine Blk.below_ ?_ hb1 ?_ <;> first | exact Blk.alloc_ (Blk.new_ rfl rfl) _ | (simp;omega) | simp
    have kR:Blk w1 (w.heap.size+1) 180 #[.int .i64 0,.map none,.int .u64 0,.int .u64 0,.int .u64 0,.int .u64 0]:=by refine Blk.below_ ?_ hb1 ?_ <;> first | exact Blk.new_ (by simp) rfl | simp
    have zS:=kS.lt;have zR:=kR.lt;clear hb1 BX;obtain⟨q0,q1⟩:=zc2 kS;obtain⟨t0,t1,t2,t3,t4,t5⟩:=zc6 kR;obtain⟨tf0,tf1,tf2,tf3,tf4,tf5,-⟩:=zf kR;go_wp2_with fail;obtain⟨W,hW⟩:∃ W,(((((w1.setCell ⟨w.heap.size+1,0,none⟩ (.int .i64 0)).setCell ⟨w.heap.size+1,1,none⟩ (.map none)).setCell ⟨w.heap.size+1,2,none⟩ (.int .u64 0)).setCell ⟨w.heap.size+1,3,none⟩ (.int .u64 0)).setCell ⟨w.heap.size+1,4,none⟩ (.int .u64 0)).setCell ⟨w.heap.size+1,5,none⟩ (.int .u64 0)=W:=⟨_,rfl⟩;have kW:Blk W (w.heap.size+1) 180 #[.int .i64 0,.map none,.int .u64 0,.int .u64 0,.int .u64 0,.int .u64 0]:=by rw[←hW];exact((((((kR.set_ 0 _).set_ 1 _).set_ 2 _).set_ 3 _).set_ 4 _).set_ 5 _)
    have bW:Below w.heap.size w W:=by rw[←hW];exact zbl
    rw[hW];clear hW t0 t1 t2 t3 t4 t5;refine bodyPost_ret (by simp[results,Tryz.results147,go_sem,zc6 kW] <;> rfl) rfl ?_;exact⟨rfl,bW⟩
   ·rw[if_neg (by omega)] at h
    exact absurd h.symm hz
 ·rw[if_pos (by simpa using y0)] at h
  subst h;have yb:(y != 0)=true:=by simpa using y0
  clear ha hk
  go_enter Tryz.func147,Tryz.ntmps147
  go_wp2_with fail;have BX:Below w.heap.size w ((w.alloc (.cells #[.slice A s.refs.length c,.slice B s.busy.length d] 25)).alloc (.cells #[.int .i64 0,.map none,.int .u64 0,.int .u64 0,.int .u64 0,.int .u64 0] 180)):=zbl;refine (sCheck_any A B c d s _ (HA.out.ext BX) (by omega) (by omega) HZ.out).mono ?_;rintro e1 w1 ⟨rfl,hb1⟩;have B1:Below w.heap.size w w1:=BX.trans (hb1.mono (by simp;omega))
  have kS:Blk w1 w.heap.size 25 #[.slice A s.refs.length c,.slice B s.busy.length d]:=by refine Blk.below_ ?_ hb1 ?_ <;> first | exact Blk.alloc_ (Blk.new_ rfl rfl) _ | (simp;omega) | simp
  have kR:Blk w1 (w.heap.size+1) 180 #[.int .i64 0,.map none,.int .u64 0,.int .u64 0,.int .u64 0,.int .u64 0]:=by refine Blk.below_ ?_ hb1 ?_ <;> first | exact Blk.new_ (by simp) rfl | simp
  have zS:=kS.lt;have zR:=kR.lt;clear hb1 BX;obtain⟨q0,q1⟩:=zc2 kS;obtain⟨t0,t1,t2,t3,t4,t5⟩:=zc6 kR;obtain⟨tf0,tf1,tf2,tf3,tf4,tf5,-⟩:=zf kR;go_wp2_with fail;obtain⟨W,hW⟩:∃ W,(((((w1.setCell ⟨w.heap.size+1,0,none⟩ (.int .i64 0)).setCell ⟨w.heap.size+1,1,none⟩ (.map none)).setCell ⟨w.heap.size+1,2,none⟩ (.int .u64 0)).setCell ⟨w.heap.size+1,3,none⟩ (.int .u64 0)).setCell ⟨w.heap.size+1,4,none⟩ (.int .u64 0)).setCell ⟨w.heap.size+1,5,none⟩ (.int .u64 0)=W:=⟨_,rfl⟩;have kW:Blk W (w.heap.size+1) 180 #[.int .i64 0,.map none,.int .u64 0,.int .u64 0,.int .u64 0,.int .u64 0]:=by rw[←hW];exact((((((kR.set_ 0 _).set_ 1 _).set_ 2 _).set_ 3 _).set_ 4 _).set_ 5 _)
  have bW:Below w.heap.size w W:=by rw[←hW];exact zbl
  rw[hW];clear hW t0 t1 t2 t3 t4 t5;refine bodyPost_ret (by simp[results,Tryz.results147,go_sem,zc6 kW] <;> rfl) rfl ?_;exact⟨rfl,bW⟩
def AtPost(s:Sts)(w:World)(e:Ending)(w':World):Prop:=∃ M x,e=.returned (.tuple #[bkV s.refs.length M x,.int .i64 0])∧BkF s M x w'∧w.heap.size≤M∧Below w.heap.size w w'
theorem at_good(A B:Option Addr)(c d:Nat)(s:Sts)(i:Int)(w:World)(ha:SR intE w A s.refs)(hb:SR boolE w B s.busy)(la:s.refs.length≤40)(h:askT s i=0) :
  Calls Tryz.prog 147 #[stV A c B d s,.int .i64 i] w (AtPost s w):=by
 have HA:=Lib.hid ha;have HB:=Lib.hid hb
 have hz:(chkT s).1=0:=by
  unfold askT at h
  by_cases e:(chkT s).1≠0
  ·rw[if_pos e] at h;exact absurd h e
  ·simpa using e
 have hok:=chkT_ok.1 hz;have HZ:Hid (chkT s=(0,0)):=chkT_zero hok;have hi:=(askT_zero hok).1 h;have lb:s.busy.length≤40:=by have:=hok.blen;omega
 have HOK:=Lib.hid hok;obtain⟨hi0,hi1⟩:=hi;unfold stV;clear ha hb h hz hok
 go_enter Tryz.func147,Tryz.ntmps147
 go_wp2_with fail;have BX:Below w.heap.size w ((w.alloc (.cells #[.slice A s.refs.length c,.slice B s.busy.length d] 25)).alloc (.cells #[.int .i64 0,.map none,.int .u64 0,.int .u64 0,.int .u64 0,.int .u64 0] 180)):=zbl;refine (sCheck_any A B c d s _ (HA.out.ext BX) (by omega) (by omega) HZ.out).mono ?_;rintro e1 w1 ⟨rfl,hb1⟩;have B1:Below w.heap.size w w1:=BX.trans (hb1.mono (by simp;omega))
 have kS:Blk w1 w.heap.size 25 #[.slice A s.refs.length c,.slice B s.busy.length d]:=by refine Blk.below_ ?_ hb1 ?_ <;> first | exact Blk.alloc_ (Blk.new_ rfl rfl) _ | (simp;omega) | simp
 have kR:Blk w1 (w.heap.size+1) 180 #[.int .i64 0,.map none,.int .u64 0,.int .u64 0,.int .u64 0,.int .u64 0]:=by refine Blk.below_ ?_ hb1 ?_ <;> first | exact Blk.new_ (by simp) rfl | simp
 have zS:=kS.lt;have zR:=kR.lt;clear hb1 BX;obtain⟨q0,q1⟩:=zc2 kS;obtain⟨t0,t1,t2,t3,t4,t5⟩:=zc6 kR;obtain⟨tf0,tf1,tf2,tf3,tf4,tf5,-⟩:=zf kR;have i0:decide (i<0)=false:=by simp;omega
 have i1:decide (i≥(s.refs.length:Int))=false:=by simp;omega
 have i2:decide ((s.refs.length:Int)≤i)=false:=by simp;omega
 go_wp2_with fail;refine (open_any A B c d s w1 (HA.out.ext B1) (HB.out.ext B1) la HOK.out.blen HOK.out.range).mono ?_;rintro e2 w2 ⟨M,x,rfl,hF,hM,hb2⟩;unfold bkV;replace kR:=kR.below_ hb2 zR;have B2:=zbt B1 hb2;have zR2:=kR.lt;have hMM:w.heap.size+1≠M:=by omega
 have hMw:w.heap.size≤M:=by omega
 clear t0 t1 t2 t3 t4 t5 tf0 tf1 tf2 tf3 tf4 tf5 q0 q1 hb2 hM;obtain⟨t0,t1,t2,t3,t4,t5⟩:=zc6 kR;obtain⟨tf0,tf1,tf2,tf3,tf4,tf5,-⟩:=zf kR;go_wp2_with fail;obtain⟨W,hW⟩:∃ W,(((((w2.setCell ⟨w.heap.size+1,0,none⟩ (.int .i64 s.refs.length)).setCell ⟨w.heap.size+1,1,none⟩ (.map (some M))).setCell ⟨w.heap.size+1,2,none⟩ (.int .u64 (x:Nat))).setCell ⟨w.heap.size+1,3,none⟩ (.int .u64 0)).setCell ⟨w.heap.size+1,4,none⟩ (.int .u64 0)).setCell ⟨w.heap.size+1,5,none⟩ (.int .u64 0)=W:=⟨_,rfl⟩;have kW:Blk W (w.heap.size+1) 180 #[.int .i64 s.refs.length,.map (some M),.int .u64 (x:Nat),.int .u64 0,.int .u64 0,.int .u64 0]:=by rw[←hW];exact((((((kR.set_ 0 _).set_ 1 _).set_ 2 _).set_ 3 _).set_ 4 _).set_ 5 _)
 have bW:Below w.heap.size w W:=by rw[←hW];exact zbl
 have hF8:BkF s M x W:=by rw[←hW];exact((((((hF).far_ _ (by exact hMM)).far_ _ (by exact hMM)).far_ _ (by exact hMM)).far_ _ (by exact hMM)).far_ _ (by exact hMM)).far_ _ (by exact hMM)
 rw[hW];clear hW t0 t1 t2 t3 t4 t5;refine bodyPost_ret (by simp[results,Tryz.results147,go_sem,zc6 kW] <;> rfl) rfl ?_;exact⟨M,x,rfl,hF8,hMw,bW⟩
end Go.Proofs.YthijbipidbjpfaaGreatDoor
