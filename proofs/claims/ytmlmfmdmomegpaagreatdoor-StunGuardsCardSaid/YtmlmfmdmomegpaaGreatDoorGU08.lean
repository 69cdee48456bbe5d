/- Chapter 08: attributes, collected. -/
/- Marks of ranges that were left by a jump. Own work. No program is named here. -/
/- Chapter 08: the closures of Decode. -/
/- Chapter 08: Decode. -/
/- Chapter 08: what is read from octets is what was written. -/
/- Chapter 08: plain laws of the reference: the type of a message bit by bit, values of errors. -/
/- Chapter 08: the reference of octets. -/
/- Hexadecimal text: octets.Hex (for any seat; from C03L). -/
/- Chapter 08: the reference: type, mixed values, values of errors. -/
/- Chapter 08: the reference: sizes, validity, octets, places. -/
/- Maps of the call's own, keyed by integers. Own work. No program is named here. -/
/- Drawn regions as trees, over a class of worlds: a quiet operation is quiet in every world of the class; an operation that is not quiet leaves the class' worlds in the class. Own work. No program is named here. -/
/- Slices of rows and of octets that come in: what is read of them. Own work. -/
/- Chapter 08: messages are compared; lists of integers. -/
import Derived.Test.YtmlmfmdmomegpaaGreatDoorGU07
import Derived.Test.YtmlmfmdmomegpaaGreatDoorGU06
import Derived.Test.YtmlmfmdmomegpaaGreatDoorGU03
import Derived.Test.YtmlmfmdmomegpaaGreatDoorGU02
import Derived.Test.YtmlmfmdmomegpaaGreatDoorGU05
import Derived.MapKept
namespace Go.Proofs.YtmlmfmdmomegpaaGreatDoor
set_option linter.unusedSimpArgs false
set_option linter.unusedVariables false
set_option maxRecDepth 100000
open Go.RowKit V
set_option maxHeartbeats 16000000
theorem parseF_le:∀ (f:Nat) (l:List UInt8),(parseF f l).1.length≤f
 | 0,_=>Nat.le_refl _
 | f+1,[]=>Nat.zero_le _
 | f+1,x :: l=>by
  unfold parseF
  cases hp:pstep (x :: l) with
  | none=>exact Nat.zero_le _
  | some y=>dsimp only; rw [List.length_cons]; have:=parseF_le f y.2; omega
theorem parse_le (l:List UInt8):(parse l).1.length≤l.length:=parseF_le _ _
theorem takeA_snoc (A:List At2) (k:Nat) (h:k < A.length):A.take (k+1)=A.take k++[A.getD k (0,⟨#[]⟩)]:=by
 rw [List.take_add_one,List.getD_eq_getElem?_getD,List.getElem?_eq_getElem h]; rfl
theorem appSeq_c {W:World} (S:ByteArray) (hS:S.size≤10000) (bs:Nat) (hb:Blk W bs [.string S] 9) :
  Calls Tryz.prog 119 #[.slice none 0 0,.func (.func 120) #[] #[.pointer (some ⟨bs,0,none⟩)]] W fun e w' =>
   ((parse S.data.toList).2=true∧∃ v,e = .returned v∧HpM [bs] W w' [row 54 2 v (parse S.data.toList).1.length (flatC (parse S.data.toList).1)])∨((parse S.data.toList).2=false∧e = .panicked mal∧HpM [bs] W w' []):=by
 have hlt:bs < W.heap.size:=hb.lt
 have hpl:=parse_le S.data.toList
 rw [toList_len] at hpl
 have it:=attrs_iter S hS bs 20000
 obtain ⟨A,ok,hA⟩:∃ A ok,parse S.data.toList=(A,ok):=⟨_,_,rfl⟩
 rw [hA] at it hpl ⊢
 dsimp only at it hpl ⊢
 refine v_fnD (args:=[.slice none 0 0,.func (.func 120) #[] #[.pointer (some ⟨bs,0,none⟩)]]) TTok FFok Tryz.func119 rfl (Nat.le_of_ble_eq_true rfl) ?_
 have hp:=(HpM.nil0 [bs] W).take hb (by simp) (by simp)
 conv=>whnf
 refine VSeq.mk fun Kq hKq=>?_
 conv=>whnf
 refine hp.kbox1 rfl fun q w hp hx=>?_
 conv=>whnf
 refine hKq _ _ _ (.refl _) ?_
 clear hKq Kq
 conv=>whnf
 refine VSeq.mk fun Kq hKq=>?_
 conv=>whnf
 refine VSeq.mk fun Kq hKq=>?_
 conv=>whnf
 refine hKq _ _ _ (.refl _) ?_
 clear hKq Kq
 conv=>whnf
 skip
 have hp:=hp.knil 54 2
 refine v_range2P TTok FFok it rfl rfl (by kernel_rfl) rfl (fun _=>rfl)
  (fun k X B=>k≤A.length∧∃ v,HpM [bs] W B (row 54 2 v k (flatC (A.take k)) :: blk q [v] 22 :: X))
  (fun e X B=>False)
  (fun t=>⟨fun X B h x hx=>by obtain ⟨_,v,h⟩:=h; exact h.holds x (by simp [hx]),fun X X' B C r h=>by obtain ⟨h1,v,h⟩:=h; exact ⟨h1,v,h.reframeAt 2 rfl r⟩⟩)
  (fun e=>⟨fun X B h=>h.elim,fun X X' B C r h=>h.elim⟩)
  (fun t X B h=>by have:=h.1; omega) [blk bs [.string S] 9] (hp.pick [2] (by decide)) rfl
  (fun B hx=>(hp.get (i:=2) rfl:Blk _ _ _ _).ext hx) ⟨Nat.zero_le _,_,hp⟩ ?_ ?_ ?_ ?_ ?_
 ·rintro k X B ⟨hk,v,hp⟩ hnt hnb
  clear it
  have hkl:k < A.length:=by
   rcases Nat.lt_or_ge k A.length with h | h
   ·exact h
   ·exfalso
    cases ok with
    | true=>exact hnt ⟨by omega,rfl⟩
    | false=>exact hnb mal ⟨by omega,rfl,rfl⟩
  obtain ⟨a,ha⟩:∃ a,A.getD k (0,⟨#[]⟩)=a:=⟨_,rfl⟩
  rw [ha]
  unfold atV
  obtain ⟨pp,cp,rfl⟩:=row_shape (hp.get (i:=0) rfl)
  conv=>whnf
  (refine hp.kalloc z54 fun al54 w hp hx=>?_; conv=>whnf)
  (refine hp.kstA TTok rfl 0 rfl rfl (oneC_of rfl) (by rfl) fun w hp=>?_; try simp only [List.set_cons_zero,List.set_cons_succ,EV.val] at hp; conv=>whnf)
  refine ⟨fun x hx=>hp.holds x (by simp [hx]),fun X' B' r=>?_⟩
  have hp:=hp.reframeAt 3 rfl r
  simp only [List.take_succ_cons,List.take_zero,List.cons_append,List.nil_append] at hp
  clear hx
  conv=>whnf
  (refine ⟨_,_,Blk.ld (hp.get (i:=2) rfl) TTok rfl rfl,?_⟩; conv=>whnf)
  (refine ⟨_,_,Blk.ldV (vs:=[_,_]) (hp.get (i:=0) rfl) TTok rfl rfl rfl,?_⟩; conv=>whnf)
  (refine hp.kmade _ _ (fun b=>.slice (some ⟨b,0,none⟩) 1 1) (mks22_1_0 _ _ _) fun q w hp hx=>?_; conv=>whnf)
  refine hp.kapp sl22 2 rfl (Blk.src TTok (hp.get (i:=0) rfl) rfl (m:=1) rfl (oneC_of rfl)) (by omega) (by unfold maxLen; omega) fun v' w hp=>?_
  simp only [List.set_cons_zero,List.set_cons_succ] at hp
  obtain ⟨p1,c1,rfl⟩:=row_shape (hp.get (i:=2) rfl)
  conv=>whnf
  refine hp.kst1 (off:=0) TTok (by rfl) 3 (by rfl) (by rfl) (by rfl) (Nat.le_of_ble_eq_true rfl) fun w hp=>?_
  try simp only [List.set_cons_zero,List.set_cons_succ,EV.val] at hp
  conv=>whnf
  refine And.intro (by omega) ?_
  conv=>whnf
  refine ⟨.slice p1 (k+1) c1,?_⟩
  have hp:=hp.sub (List.drop_sublist 2 _)
  simp only [List.drop_succ_cons,List.drop_zero] at hp
  rw [takeA_snoc A k hkl,ha,flatC_app]
  exact hp
 ·rintro D k X B ⟨rfl,rfl⟩ ⟨_,v,hp⟩
  rw [List.take_of_length_le (Nat.le_refl _)] at hp
  obtain ⟨pp,cp,rfl⟩:=row_shape (hp.get (i:=0) rfl)
  conv=>whnf
  refine hKq _ _ _ (.refl _) ?_
  clear hKq Kq
  conv=>whnf
  refine VSeq.mk fun Kq hKq=>?_
  conv=>whnf
  (refine ⟨_,_,Blk.ld (hp.get (i:=1) rfl) TTok rfl rfl,?_⟩; conv=>whnf)
  (refine hKq _ _ _ (.refl _) ?_; clear hKq Kq; conv=>whnf)
  refine ⟨⟨fun h=>(by cases h),hp.get (i:=2) rfl⟩,?_⟩
  conv=>whnf
  exact .inl ⟨rfl,_,rfl,(hp.shut (i:=2) (o':=.deferred none) rfl).pick [0] (by decide)⟩
 ·exact fun _ _ _ h=>h.elim
 ·exact fun _ _ _ _ h=>h.elim
 ·rintro D k c X B ⟨rfl,rfl,rfl⟩ ⟨_,v,hp⟩
  conv=>whnf
  refine ⟨⟨fun h=>(by cases h),hp.get (i:=2) rfl⟩,?_⟩
  show _∨_
  exact .inr ⟨rfl,rfl,(hp.shut (i:=2) (o':=.deferred none) rfl).sub (List.nil_sublist _)⟩
open Go.RowKit
namespace V
theorem HpM.perm {M:List Nat} {w0 w:World} {H H':List It} (h:HpM M w0 w H) (hp:H.Perm H'):HpM M w0 w H' :=
 ⟨h.extM,fun x hx=>h.ok x (hp.mem_iff.2 hx),fun x hx=>h.holds x (hp.mem_iff.2 hx),fun x hx=>h.lo x (hp.mem_iff.2 hx),
  (hp.pairwise_iff (fun {x y} hxy b hb hy=>hxy b hy hb)).1 h.apart⟩
end V
set_option maxHeartbeats 8000000
theorem Collect_c {W:World} (S:ByteArray) (hS:S.size≤10000) (bs:Nat) (hb:Blk W bs [.string S] 9) :
  Calls Tryz.prog 71 #[.func (.func 120) #[] #[.pointer (some ⟨bs,0,none⟩)]] W fun e w' =>
   ((parse S.data.toList).2=true∧∃ v,e = .returned v∧HpM [bs] W w' [row 54 2 v (parse S.data.toList).1.length (flatC (parse S.data.toList).1)])∨((parse S.data.toList).2=false∧e = .panicked mal∧HpM [bs] W w' []):=by
 refine v_fnD (args:=[.func (.func 120) #[] #[.pointer (some ⟨bs,0,none⟩)]]) TTok FFok Tryz.func71 rfl (Nat.le_of_ble_eq_true rfl) ?_
 conv=>whnf
 refine VSeq.mk fun Kq hKq=>?_
 conv=>whnf
 refine hKq _ _ _ (.refl _) ?_
 clear hKq Kq
 conv=>whnf
 refine VSeq.mk fun Kq hKq=>?_
 conv=>whnf
 refine V.CallP.out ?_
 conv=>arg 3; dsimp only [EV.val,List.toList_toArray,List.nil_append,List.append_nil,List.cons_append]
 refine V.CallP.use (appSeq_c S hS bs hb) ?_
 rintro _ w (⟨ho,v,rfl,hp⟩ | ⟨ho,rfl,hp⟩)
 ·obtain ⟨p,c,rfl⟩:=row_shape (hp.get (i:=0) rfl)
  refine Or.inl ⟨_,rfl,?_⟩
  conv=>whnf
  refine hKq _ _ _ (.refl _) ?_
  clear hKq Kq
  conv=>whnf
  refine Or.inl (And.intro (by omega) ?_)
  conv=>whnf
  first | exact .inl ⟨ho,_,rfl,hp⟩ | exact ⟨_,rfl,hp⟩
 ·refine Or.inr ⟨_,rfl,?_⟩
  conv=>whnf
  exact .inr ⟨ho,rfl,hp⟩
theorem attributes_c {w:World} (s:ByteArray) :
  Calls Tryz.prog 72 #[.string s] w fun e w'=>∃ q,e = .returned (.func (.func 120) #[] #[.pointer (some ⟨q,0,none⟩)])∧HpM [] w w' [blk q [.string s] 9]:=by
 refine (v_fn (R:=fun v w'=>∃ q,v = .func (.func 120) #[] #[.pointer (some ⟨q,0,none⟩)]∧HpM [] w w' [blk q [.string s] 9]) (args:=[.string s]) TTok FFok Tryz.func72 rfl (Nat.le_of_ble_eq_true rfl) ?_).mono (fun e w' ⟨v,h1,q,h2,h3⟩=>⟨q,by rw [h1,h2],h3⟩)
 have hp:=Hp.nil w
 conv=>whnf
 refine VSeq.mk fun Kq hKq=>?_
 conv=>whnf
 refine hp.kbox1 rfl fun q w hp hx=>?_
 conv=>whnf
 refine hKq _ _ _ (.refl _) ?_
 clear hKq Kq
 conv=>whnf
 refine VSeq.mk fun Kq hKq=>?_
 conv=>whnf
 refine hKq _ _ _ (.refl _) ?_
 clear hKq Kq
 conv=>whnf
 skip
 exact ⟨q,rfl,hp⟩
theorem HpM.swap {M:List Nat} {w0 A B:World} {b e:Nat} {cs:List Value} {H X:List It} (hp:HpM M w0 A (blk b cs e :: H)) (hr:HpM [b] A B X):HpM M w0 B (H++X):=by
 have h1:HpM M w0 A (H++[blk b cs e]):=hp.perm (List.perm_append_comm (l₁:=[blk b cs e]))
 refine h1.reframe ⟨hr.extM,hr.ok,hr.holds,fun x hx c hc=>?_,hr.apart⟩
 exact hr.lo x hx c hc
theorem HpM.ext1 {A B C:World} {b:Nat} {X:List It} (hr:HpM [b] B C X) (hx:Ext A B) (hb:A.heap.size≤b):Ext A C:=by
 have h:=(ExtM.of_ext (M:=[b]) hx).trans' hr.extM
 exact ⟨h.os,h.tape,h.output,h.size,fun k hk=>h.block k hk (by simp; omega)⟩
theorem number_c {W:World} (s:ByteArray) (hs:s.size≤100000) (bs:Nat) (hb:Blk W bs [.string s] 9) (i k:Nat) (h1:1≤k) (h7:k≤7) (hk:i+k≤s.size) :
  Calls Tryz.prog 68 #[.int .i64 i,.int .i64 (i+k:Nat),.pointer (some ⟨bs,0,none⟩)] W fun e w'=>e = .returned (.int .i64 (numB (s.extract i (i+k))))∧Ext W w':=by
 have hsz:(s.extract i (i+k)).size=k:=by rw [ByteArray.size_extract]; omega
 refine v_reads (args:=[.int .i64 i,.int .i64 (i+k:Nat),.pointer (some ⟨bs,0,none⟩)]) TTok FFok Tryz.func68 rfl rfl ?_
 have hp:=Hp.nil W
 conv=>whnf
 refine VSeq.mk fun Kq hKq=>?_
 conv=>whnf
 refine hKq _ _ _ (.refl _) ?_
 clear hKq Kq
 conv=>whnf
 refine VSeq.mk fun Kq hKq=>?_
 conv=>whnf
 skip
 refine ⟨_,_,hb.ld TTok rfl rfl,?_⟩
 conv=>whnf
 (refine ⟨_,_,⟨rfl,rfl,by omega,by omega⟩,?_⟩; conv=>whnf)
 (refine ⟨_,_,bld126_0 _ _,?_⟩; conv=>whnf)
 (refine Or.inl (And.intro (by first | omega | decide) ?_); conv=>whnf)
 rw [show ((i+k:Nat):Int) - (i:Int)=((k:Nat):Int) by omega]
 (refine V.CallW.out ?_; (conv=>arg 3; dsimp only [EV.val,List.toList_toArray,List.nil_append,List.append_nil,List.cons_append]); (with_reducible refine V.PureF.useW (Uint_ok (s.extract i (i+k)) 0 k (by omega) (by omega) (by omega) (by omega)) fun w hx=>?_); try (have hp:=hp.call hx); conv=>whnf)
 (refine hp.kalloc z126 fun al126 w hp hx=>?_; conv=>whnf)
 (refine hp.kstA TTok rfl 0 rfl rfl (oneC_of rfl) (by rfl) fun w hp=>?_; try simp only [List.set_cons_zero,List.set_cons_succ,EV.val] at hp; conv=>whnf)
 (refine hKq _ _ _ (.refl _) ?_; clear hKq Kq; conv=>whnf)
 (refine VSeq.mk fun Kq hKq=>?_; conv=>whnf)
 (refine hKq _ _ _ (.refl _) ?_; clear hKq Kq; conv=>whnf)
 rw [ext_ext,Nat.add_zero,Nat.zero_add,Nat.min_self]
 exact ⟨rfl,hp.ext⟩
theorem def_idle {w:World} (qm qe:Nat) :
  DefC Tryz.prog 67 #[.pointer (some ⟨qm,0,none⟩),.pointer (some ⟨qe,0,none⟩)] .returning w fun e u' w'=>u' = .returning∧∃ x,e = .returned x∧w'=w:=by
 refine v_deferred (args:=[.pointer (some ⟨qm,0,none⟩),.pointer (some ⟨qe,0,none⟩)]) TTok FFok Tryz.func67 rfl (Nat.le_of_ble_eq_true rfl) (fun ρ w=>rfl) rfl rfl rfl rfl ?_
 conv=>whnf
 refine VSeq.mk fun Kq hKq=>?_
 conv=>whnf
 refine ⟨.bool false,w,by kernel_rfl,?_⟩
 conv=>whnf
 refine hKq _ _ _ (.refl _) ?_
 clear hKq Kq
 conv=>whnf
 (refine And.intro (fun h=>absurd h (by decide)) (fun _=>?_); conv=>whnf)
 exact ⟨rfl,rfl⟩
theorem def_caught {M:List Nat} {w0 w:World} {H:List It} {qm qe:Nat} {mc:List Value} {ec:Value} (hp:HpM M w0 w (blk qe [ec] 36 :: blk qm mc 24 :: H)) (hm:mc.length=4) :
  DefC Tryz.prog 67 #[.pointer (some ⟨qm,0,none⟩),.pointer (some ⟨qe,0,none⟩)] (.panicking mal) w fun e u' w'=>u' = .panicking [{ v:=.iface 123 (.agg #[]),recovered:=true }]∧∃ x,e = .returned x∧HpM M w0 w' (blk qe [.int .i64 5] 36 :: blk qm [.int .i64 0,.int .i64 0,.string ⟨#[]⟩,.slice none 0 0] 24 :: H):=by
 refine v_deferred (args:=[.pointer (some ⟨qm,0,none⟩),.pointer (some ⟨qe,0,none⟩)]) TTok FFok Tryz.func67 rfl (Nat.le_of_ble_eq_true rfl) (fun ρ w=>rfl) rfl rfl rfl rfl ?_
 conv=>whnf
 refine VSeq.mk fun Kq hKq=>?_
 conv=>whnf
 refine ⟨.bool true,w,by kernel_rfl,?_⟩
 conv=>whnf
 refine hKq _ _ _ (.refl _) ?_
 clear hKq Kq
 conv=>whnf
 (refine And.intro (fun _=>?_) (fun h=>absurd h (by decide)); conv=>whnf)
 (refine VSeq.mk fun Kq hKq=>?_; conv=>whnf)
 (refine VSeq.mk fun Kq hKq=>?_; conv=>whnf)
 refine ⟨.tuple #[.agg #[],.bool true],w,by kernel_rfl,?_⟩
 conv=>whnf
 (refine hp.kalloc z123 fun al123 w hp hx=>?_; conv=>whnf)
 (refine hp.kstA TTok rfl 0 rfl rfl (oneC_of rfl) (by rfl) fun w hp=>?_; try simp only [List.set_cons_zero,List.set_cons_succ,EV.val] at hp; conv=>whnf)
 (refine hKq _ _ _ (.refl _) ?_; clear hKq Kq; conv=>whnf)
 (refine VSeq.mk fun Kq hKq=>?_; conv=>whnf)
 (refine hKq _ _ _ (.refl _) ?_; clear hKq Kq; conv=>whnf)
 (refine And.intro (fun h=>absurd h (by decide)) (fun _=>?_); conv=>whnf)
 (refine hKq _ _ _ (.refl _) ?_; clear hKq Kq; conv=>whnf)
 (refine ⟨_,_,bld24_ _,?_⟩; conv=>whnf)
 refine hp.kstA TTok rfl 2 rfl (rfl) (oneC_of rfl) (hm) fun w hp=>?_
 try simp only [List.set_cons_zero,List.set_cons_succ,EV.val] at hp
 conv=>whnf
 (refine hp.kst1 TTok (by rfl) 1 (by rfl) (by rfl) (by rfl) (Nat.le_of_ble_eq_true rfl) fun w hp=>?_; try simp only [List.set_cons_zero,List.set_cons_succ,EV.val] at hp; conv=>whnf)
 exact ⟨rfl,hp.tail⟩
set_option maxHeartbeats 16000000
def hdT (s:ByteArray):Nat:=numB (s.extract 0 2)
def decA (s:ByteArray):List At2 × Bool:=parse (s.extract 20 s.size).data.toList
def okD (s:ByteArray):Bool:=decide (hdT s < 16384) && (decide (numB (s.extract 4 8)=554869826) && decide (s.size=20+numB (s.extract 2 4)))
def decC (s:ByteArray):Nat :=
 if 1200 < s.size then 3 else if s.size < 20 then 7 else if s.size < 20+numB (s.extract 2 4) then 7 else
 if okD s=true∧(decA s).2=true∧stunB (clsN (hdT s)) (mthN (hdT s)) (s.extract 8 20) (decA s).1=true then 0 else 5
theorem Decode_c {W:World} (s:ByteArray) (hs:s.size≤maxLen) :
  Calls Tryz.prog 19 #[.string s] W fun e w' =>
   (decC s=0∧∃ v,e = .returned (.tuple #[.agg #[.int .i64 (clsN (hdT s)),.int .i64 (mthN (hdT s)),.string (s.extract 8 20),v],.int .i64 0])∧HpM [] W w' [row 54 2 v (decA s).1.length (flatC (decA s).1)]) ∨
   (decC s≠0∧e = .returned (.tuple #[zStun,.int .i64 (decC s)])∧Ext W w'):=by
 unfold maxLen at hs
 have hD:decC s=if 1200 < s.size then 3 else if s.size < 20 then 7 else if s.size < 20+numB (s.extract 2 4) then 7 else if okD s=true∧(decA s).2=true∧stunB (clsN (hdT s)) (mthN (hdT s)) (s.extract 8 20) (decA s).1=true then 0 else 5:=rfl
 obtain ⟨D,hDD⟩:∃ D,decC s=D:=⟨_,rfl⟩
 rw [hDD] at hD ⊢
 refine v_fnD (args:=[.string s]) TTok FFok Tryz.func19 rfl (Nat.le_of_ble_eq_true rfl) ?_
 have hp:=Hp.nil W
 conv=>whnf
 refine VSeq.mk fun Kq hKq=>?_
 conv=>whnf
 refine hp.kbox1 rfl fun q1 w hp hx=>?_
 conv=>whnf
 (refine hp.kalloc z24 fun al24 w hp hx=>?_; conv=>whnf)
 (refine hp.kalloc z36 fun al36 w hp hx=>?_; conv=>whnf)
 (refine hKq _ _ _ (.refl _) ?_; clear hKq Kq; conv=>whnf)
 (refine VSeq.mk fun Kq hKq=>?_; conv=>whnf)
 (refine VSeq.mk fun Kq hKq=>?_; conv=>whnf)
 (refine ⟨_,_,Blk.ld (hp.get (i:=2) rfl) TTok rfl rfl,?_⟩; conv=>whnf)
 (refine hKq _ _ _ (.refl _) ?_; clear hKq Kq; conv=>whnf)
 refine ⟨fun h1=>?_,fun h1=>?_⟩
 ·have h1:=of_decide_eq_true h1
  conv=>whnf
  refine VSeq.mk fun Kq hKq=>?_
  conv=>whnf
  rw [if_pos (by omega)] at hD
  (refine ⟨_,_,Blk.ldV (vs:=[_,_,_,_]) (hp.get (i:=1) rfl) TTok rfl rfl rfl,?_⟩; conv=>whnf)
  (refine hp.kstA TTok rfl 1 rfl rfl (oneC_of rfl) (by rfl) fun w hp=>?_; try simp only [List.set_cons_zero,List.set_cons_succ,EV.val] at hp; conv=>whnf)
  (refine hp.kst1 TTok (by rfl) 0 (by rfl) (by rfl) (by rfl) (Nat.le_of_ble_eq_true rfl) fun w hp=>?_; try simp only [List.set_cons_zero,List.set_cons_succ,EV.val] at hp; conv=>whnf)
  (refine hKq _ _ _ (.refl _) ?_; clear hKq Kq; conv=>whnf)
  (refine ⟨_,Blk.lvN (hp.get (i:=1) rfl) TTok rfl rfl,?_⟩; conv=>whnf)
  (refine ⟨_,Blk.lv (hp.get (i:=0) rfl) TTok rfl rfl,?_⟩; conv=>whnf)
  subst hD
  exact .inr ⟨by decide,rfl,hp.ext⟩
 ·have h1:=of_decide_eq_false h1
  conv=>whnf
  refine VSeq.mk fun Kq hKq=>?_
  conv=>whnf
  rw [if_neg (by omega)] at hD
  (refine ⟨_,_,Blk.ld (hp.get (i:=2) rfl) TTok rfl rfl,?_⟩; conv=>whnf)
  (refine hKq _ _ _ (.refl _) ?_; clear hKq Kq; conv=>whnf)
  refine ⟨fun h2=>?_,fun h2=>?_⟩
  ·have h2:=of_decide_eq_true h2
   conv=>whnf
   refine VSeq.mk fun Kq hKq=>?_
   conv=>whnf
   rw [if_pos (by omega)] at hD
   (refine ⟨_,_,Blk.ldV (vs:=[_,_,_,_]) (hp.get (i:=1) rfl) TTok rfl rfl rfl,?_⟩; conv=>whnf)
   (refine hp.kstA TTok rfl 1 rfl rfl (oneC_of rfl) (by rfl) fun w hp=>?_; try simp only [List.set_cons_zero,List.set_cons_succ,EV.val] at hp; conv=>whnf)
   (refine hp.kst1 TTok (by rfl) 0 (by rfl) (by rfl) (by rfl) (Nat.le_of_ble_eq_true rfl) fun w hp=>?_; try simp only [List.set_cons_zero,List.set_cons_succ,EV.val] at hp; conv=>whnf)
   (refine hKq _ _ _ (.refl _) ?_; clear hKq Kq; conv=>whnf)
   (refine ⟨_,Blk.lvN (hp.get (i:=1) rfl) TTok rfl rfl,?_⟩; conv=>whnf)
   (refine ⟨_,Blk.lv (hp.get (i:=0) rfl) TTok rfl rfl,?_⟩; conv=>whnf)
   subst hD
   exact .inr ⟨by decide,rfl,hp.ext⟩
  ·have h2:=of_decide_eq_false h2
   conv=>whnf
   refine hKq _ _ _ (.refl _) ?_
   clear hKq Kq
   conv=>whnf
   refine VSeq.mk fun Kq hKq=>?_
   conv=>whnf
   refine hKq _ _ _ (.refl _) ?_
   clear hKq Kq
   conv=>whnf
   refine VSeq.mk fun Kq hKq=>?_
   conv=>whnf
   refine hKq _ _ _ (.refl _) ?_
   clear hKq Kq
   conv=>whnf
   refine VSeq.mk fun Kq hKq=>?_
   conv=>whnf
   rw [if_neg (by omega)] at hD
   skip
   refine V.CallP.out ?_
   conv=>arg 3; dsimp only [EV.val,List.toList_toArray,List.nil_append,List.append_nil,List.cons_append]
   refine V.CallP.use (number_c s (by omega) q1 (hp.get (i:=2) rfl) 2 2 (by decide) (by decide) (by omega)) ?_
   rintro _ w ⟨rfl,hx⟩
   refine Or.inl ⟨_,rfl,?_⟩
   try (have hp:=hp.call hx)
   conv=>whnf
   refine hKq _ _ _ (.refl _) ?_
   clear hKq Kq
   conv=>whnf
   refine VSeq.mk fun Kq hKq=>?_
   conv=>whnf
   refine VSeq.mk fun Kq hKq=>?_
   conv=>whnf
   (refine ⟨_,_,Blk.ld (hp.get (i:=2) rfl) TTok rfl rfl,?_⟩; conv=>whnf)
   have hn2:=numL_lt 2 (s.extract 2 (2+2)).data.toList (by rw [toList_len,ByteArray.size_extract]; omega)
   change numB (s.extract 2 (2+2)) < 65536 at hn2
   obtain ⟨N,hN⟩:∃ N,numB (s.extract 2 (2+2))=N:=⟨_,rfl⟩
   have hN':numB (s.extract 2 4)=N:=hN
   rw [hN] at hn2
   rw [hN'] at hD
   rw [hN]
   (refine Or.inl (And.intro (by first | omega | decide) ?_); conv=>whnf)
   (refine hKq _ _ _ (.refl _) ?_; clear hKq Kq; conv=>whnf)
   refine ⟨fun h3=>?_,fun h3=>?_⟩
   ·have h3:=of_decide_eq_true h3
    conv=>whnf
    refine VSeq.mk fun Kq hKq=>?_
    conv=>whnf
    rw [if_pos (by omega)] at hD
    (refine ⟨_,_,Blk.ldV (vs:=[_,_,_,_]) (hp.get (i:=1) rfl) TTok rfl rfl rfl,?_⟩; conv=>whnf)
    (refine hp.kstA TTok rfl 1 rfl rfl (oneC_of rfl) (by rfl) fun w hp=>?_; try simp only [List.set_cons_zero,List.set_cons_succ,EV.val] at hp; conv=>whnf)
    (refine hp.kst1 TTok (by rfl) 0 (by rfl) (by rfl) (by rfl) (Nat.le_of_ble_eq_true rfl) fun w hp=>?_; try simp only [List.set_cons_zero,List.set_cons_succ,EV.val] at hp; conv=>whnf)
    (refine hKq _ _ _ (.refl _) ?_; clear hKq Kq; conv=>whnf)
    refine ⟨⟨fun h=>(by cases h),rfl⟩,CallsDIn.mono (def_idle _ _) ?_⟩
    rintro e u' w' ⟨rfl,x,rfl,rfl⟩
    conv=>whnf
    (refine ⟨_,Blk.lvN (hp.get (i:=1) rfl) TTok rfl rfl,?_⟩; conv=>whnf)
    (refine ⟨_,Blk.lv (hp.get (i:=0) rfl) TTok rfl rfl,?_⟩; conv=>whnf)
    subst hD
    exact .inr ⟨by decide,rfl,hp.ext⟩
   ·have h3:=of_decide_eq_false h3
    conv=>whnf
    refine hKq _ _ _ (.refl _) ?_
    clear hKq Kq
    conv=>whnf
    refine VSeq.mk fun Kq hKq=>?_
    conv=>whnf
    rw [if_neg (by omega)] at hD
    skip
    refine V.CallP.out ?_
    conv=>arg 3; dsimp only [EV.val,List.toList_toArray,List.nil_append,List.append_nil,List.cons_append]
    refine V.CallP.use (number_c s (by omega) q1 (hp.get (i:=2) rfl) 0 2 (by decide) (by decide) (by omega)) ?_
    rintro _ w ⟨rfl,hx⟩
    refine Or.inl ⟨_,rfl,?_⟩
    try (have hp:=hp.call hx)
    conv=>whnf
    refine hKq _ _ _ (.refl _) ?_
    clear hKq Kq
    conv=>whnf
    refine VSeq.mk fun Kq hKq=>?_
    conv=>whnf
    refine VSeq.mk fun Kq hKq=>?_
    conv=>whnf
    refine hKq _ _ _ (.refl _) ?_
    clear hKq Kq
    conv=>whnf
    refine VSeq.mk fun Kq hKq=>?_
    conv=>whnf
    have ht2:=numL_lt 2 (s.extract 0 (0+2)).data.toList (by rw [toList_len,ByteArray.size_extract]; omega)
    change numB (s.extract 0 (0+2)) < 65536 at ht2
    obtain ⟨T,hT⟩:∃ T,numB (s.extract 0 (0+2))=T:=⟨_,rfl⟩
    have hT':hdT s=T:=hT
    rw [hT] at ht2
    rw [hT'] at hD
    rw [hT,hT']
    have hok:okD s=(decide (T < 16384) && (decide (numB (s.extract 4 8)=554869826) && decide (s.size=20+N))):=by unfold okD; rw [hT',hN']
    rw [hok] at hD
    clear hok
    skip
    refine ⟨fun h4=>?_,fun h4=>?_⟩
    ·have h4:=of_decide_eq_true h4
     conv=>whnf
     skip
     refine V.CallP.out ?_
     conv=>arg 3; dsimp only [EV.val,List.toList_toArray,List.nil_append,List.append_nil,List.cons_append]
     refine V.CallP.use (number_c s (by omega) q1 (hp.get (i:=2) rfl) 4 4 (by decide) (by decide) (by omega)) ?_
     rintro _ w ⟨rfl,hx⟩
     refine Or.inl ⟨_,rfl,?_⟩
     try (have hp:=hp.call hx)
     conv=>whnf
     refine hKq _ _ _ (.refl _) ?_
     clear hKq Kq
     conv=>whnf
     obtain ⟨G,hG⟩:∃ G,numB (s.extract 4 (4+4))=G:=⟨_,rfl⟩
     have hG':numB (s.extract 4 8)=G:=hG
     rw [hG]
     rw [hG'] at hD
     skip
     refine ⟨fun h5=>?_,fun h5=>?_⟩
     ·have h5:=of_decide_eq_true h5
      conv=>whnf
      (refine ⟨_,_,Blk.ld (hp.get (i:=2) rfl) TTok rfl rfl,?_⟩; conv=>whnf)
      (refine Or.inl (And.intro (by first | omega | decide) ?_); conv=>whnf)
      by_cases h6:s.size=20+N
      rotate_left
      ·skip
       refine V.CallP.out ?_
       conv=>arg 3; dsimp only [EV.val,List.toList_toArray,List.nil_append,List.append_nil,List.cons_append]
       refine V.CallP.use (must_fb (decide_eq_false (by omega))) ?_
       rintro _ w ⟨rfl,hx⟩
       refine Or.inr ⟨_,rfl,?_⟩
       try (have hp:=hp.call hx)
       conv=>whnf
       refine ⟨⟨fun h=>(by cases h),rfl⟩,CallsDIn.mono (def_caught hp rfl) ?_⟩
       rintro _ _ w ⟨rfl,x,rfl,hp⟩
       conv=>whnf
       (refine ⟨_,Blk.lvN (hp.get (i:=1) rfl) TTok rfl rfl,?_⟩; conv=>whnf)
       (refine ⟨_,Blk.lv (hp.get (i:=0) rfl) TTok rfl rfl,?_⟩; conv=>whnf)
       rw [if_neg (fun h=>(by have:=h.1; simp only [Bool.and_eq_true,decide_eq_true_eq] at this; omega))] at hD
       subst hD
       exact .inr ⟨by decide,rfl,hp.ext⟩
      refine V.CallP.out ?_
      conv=>arg 3; dsimp only [EV.val,List.toList_toArray,List.nil_append,List.append_nil,List.cons_append]
      refine V.CallP.use (must_tb (decide_eq_true (by omega)) _) ?_
      rintro _ w ⟨rfl,hx⟩
      refine Or.inl ⟨_,rfl,?_⟩
      try (have hp:=hp.call hx)
      conv=>whnf
      refine hKq _ _ _ (.refl _) ?_
      clear hKq Kq
      conv=>whnf
      refine VSeq.mk fun Kq hKq=>?_
      conv=>whnf
      have a1:(T / 16) &&& 1≤1:=Nat.and_le_right
      have a2:(T / 128) &&& 2≤2:=Nat.and_le_right
      have a3:T &&& 15≤15:=Nat.and_le_right
      have a4:(T / 2) &&& 112≤112:=Nat.and_le_right
      have a5:(T / 4) &&& 3968≤3968:=Nat.and_le_right
      have a6:(T &&& 15 ||| (T / 2) &&& 112) < 128:=Nat.or_lt_two_pow (n:=7) (by omega) (by omega)
      have hc:clsN T=(T / 16) &&& 1 ||| (T / 128) &&& 2:=rfl
      have hm:mthN T=T &&& 15 ||| (T / 2) &&& 112 ||| (T / 4) &&& 3968:=rfl
      obtain ⟨A1,hA1⟩:∃ A,(T / 16) &&& 1=A:=⟨_,rfl⟩
      obtain ⟨A2,hA2⟩:∃ A,(T / 128) &&& 2=A:=⟨_,rfl⟩
      obtain ⟨A3,hA3⟩:∃ A,T &&& 15=A:=⟨_,rfl⟩
      obtain ⟨A4,hA4⟩:∃ A,(T / 2) &&& 112=A:=⟨_,rfl⟩
      obtain ⟨A5,hA5⟩:∃ A,(T / 4) &&& 3968=A:=⟨_,rfl⟩
      rw [hA1] at a1 hc
      rw [hA2] at a2 hc
      rw [hA3] at a3 a6 hm
      rw [hA4] at a4 a6 hm
      rw [hA5] at a5 hm
      refine v_mtBP TTok FFok mixed [24] (.q 0 (.q 1 (.q 2 (.q 3 (.q 4 (.q 5 (.q 6 (.q 7 (.q 8 (.q 9 (.q 10 (.q 11 (.q 12 (.q 13 (.q 14 (.q 15 (.q 16 (.q 17 (.q 18 (.q 19 (.q 20 (.m 21 (.m 22 (.q 23 (.m 24 .nil))))))))))))))))))))))))) (by kernel_rfl) (by rfl) ?_
      conv=>whnf
      refine ⟨4,⟨by first | rfl | omega,by omega⟩,?_⟩
      conv=>whnf
      refine ⟨T / 16,1,A1,⟨by first | rfl | omega,by first | rfl | omega,by omega,by omega⟩,by (dsimp only; exact hA1),?_⟩
      conv=>whnf
      refine ⟨7,⟨by first | rfl | omega,by omega⟩,?_⟩
      conv=>whnf
      refine ⟨T / 128,2,A2,⟨by first | rfl | omega,by first | rfl | omega,by omega,by omega⟩,by (dsimp only; exact hA2),?_⟩
      conv=>whnf
      refine ⟨A1,A2,_,⟨by first | rfl | omega,by first | rfl | omega,by omega,by omega⟩,rfl,?_⟩
      conv=>whnf
      refine ⟨T,15,A3,⟨by first | rfl | omega,by first | rfl | omega,by omega,by omega⟩,by (dsimp only; exact hA3),?_⟩
      conv=>whnf
      refine ⟨1,⟨by first | rfl | omega,by omega⟩,?_⟩
      conv=>whnf
      refine ⟨T / 2,112,A4,⟨by first | rfl | omega,by first | rfl | omega,by omega,by omega⟩,by (dsimp only; exact hA4),?_⟩
      conv=>whnf
      refine ⟨A3,A4,_,⟨by first | rfl | omega,by first | rfl | omega,by omega,by omega⟩,rfl,?_⟩
      conv=>whnf
      refine ⟨2,⟨by first | rfl | omega,by omega⟩,?_⟩
      conv=>whnf
      refine ⟨T / 4,3968,A5,⟨by first | rfl | omega,by first | rfl | omega,by omega,by omega⟩,by (dsimp only; exact hA5),?_⟩
      conv=>whnf
      refine ⟨A3 ||| A4,A5,_,⟨by first | rfl | omega,by first | rfl | omega,by omega,by omega⟩,rfl,?_⟩
      conv=>whnf
      have hS20:(s.extract 20 s.size).size≤10000:=by rw [ByteArray.size_extract]; omega
      (refine ⟨_,fun w' hx'=>Blk.ld (Blk.ext (hp.get (i:=2) rfl) hx') TTok rfl rfl,?_⟩; conv=>whnf)
      refine ⟨8,20,⟨rfl,rfl,by omega,by omega⟩,?_⟩
      conv=>whnf
      (refine ⟨_,fun w' hx'=>Blk.ld (Blk.ext (hp.get (i:=2) rfl) hx') TTok rfl rfl,?_⟩; conv=>whnf)
      refine ⟨20,⟨by first | rfl | omega,by omega⟩,?_⟩
      conv=>whnf
      intro wa hxa
      have hp:=hp.call hxa
      conv=>whnf
      refine V.CallP.out ?_
      conv=>arg 3; dsimp only [EV.val,List.toList_toArray,List.nil_append,List.append_nil,List.cons_append]
      refine V.CallP.use (attributes_c (s.extract 20 s.size)) ?_
      rintro _ w ⟨q2,rfl,hq⟩
      refine Or.inl ⟨_,rfl,?_⟩
      have hB:_≤q2:=Nat.le_trans hxa.size (by
       rcases (hq.lo _ List.mem_cons_self q2 rfl).1 with h | h
       ·cases h
       ·exact h)
      have hp:=hp.join hq
      conv=>whnf
      refine And.intro (fun h=>h.trans hq.ext) ?_
      simp only [List.cons_append,List.nil_append] at hp
      conv=>whnf
      intro wb hxb
      have hp:=hp.call hxb
      conv=>whnf
      refine V.CallP.out ?_
      conv=>arg 3; dsimp only [EV.val,List.toList_toArray,List.nil_append,List.append_nil,List.cons_append]
      refine V.CallP.use (Collect_c (s.extract 20 s.size) hS20 q2 (hp.get (i:=0) rfl)) ?_
      rintro _ w (⟨ho,v,rfl,hr⟩ | ⟨ho,rfl,hr⟩)
      ·have hp:=HpM.swap hp hr
       simp only [List.cons_append,List.nil_append] at hp
       obtain ⟨pv,cv,rfl⟩:=row_shape (hr.get (i:=0) rfl)
       refine Or.inl ⟨_,rfl,?_⟩
       conv=>whnf
       refine And.intro (fun h=>HpM.ext1 hr h hB) ?_
       clear hr hq
       conv=>whnf
       (refine ⟨_,fun w' hx'=>bld24_0_1_2_3 w' _ _ _ _ _ _,?_⟩; conv=>whnf)
       (intro w hx; try (have hp:=hp.call hx); conv=>whnf)
       (refine hp.kstA TTok rfl 1 rfl rfl (oneC_of rfl) (by rfl) fun w hp=>?_; try simp only [List.set_cons_zero,List.set_cons_succ,EV.val] at hp; conv=>whnf)
       (intro w hx; try (have hp:=hp.call hx); conv=>whnf)
       (refine hKq _ _ _ (.refl _) ?_; clear hKq Kq; conv=>whnf)
       (refine VSeq.mk fun Kq hKq=>?_; conv=>whnf)
       (refine ⟨_,_,Blk.ldV (vs:=[_,_,_,_]) (hp.get (i:=1) rfl) TTok rfl rfl rfl,?_⟩; conv=>whnf)
       refine V.CallP.out ?_
       conv=>arg 3; dsimp only [EV.val,List.toList_toArray,List.nil_append,List.append_nil,List.cons_append]
       refine V.CallP.use (Check_c _ _ _ (SA.of_row (hp.get (i:=3) rfl))) ?_
       rintro _ w ⟨rfl,hx⟩
       refine Or.inl ⟨_,rfl,?_⟩
       try (have hp:=hp.call hx)
       conv=>whnf
       skip
       by_cases hst:stunB ((A1 ||| A2:Nat):Int) ((A3 ||| A4 ||| A5:Nat):Int) (s.extract 8 20) (decA s).1=true
       ·have hck:chkN ((A1 ||| A2:Nat):Int) ((A3 ||| A4 ||| A5:Nat):Int) (s.extract 8 20) (decA s).1=0:=by unfold chkN; rw [if_pos hst]
        refine V.CallP.out ?_
        conv=>arg 3; dsimp only [EV.val,List.toList_toArray,List.nil_append,List.append_nil,List.cons_append]
        refine V.CallP.use (must_tb (decide_eq_true (by exact_mod_cast hck)) _) ?_
        rintro _ w ⟨rfl,hx⟩
        refine Or.inl ⟨_,rfl,?_⟩
        try (have hp:=hp.call hx)
        conv=>whnf
        refine hKq _ _ _ (.refl _) ?_
        clear hKq Kq
        conv=>whnf
        refine VSeq.mk fun Kq hKq=>?_
        conv=>whnf
        (refine ⟨_,_,Blk.ldV (vs:=[_,_,_,_]) (hp.get (i:=1) rfl) TTok rfl rfl rfl,?_⟩; conv=>whnf)
        (refine hp.kstA TTok rfl 1 rfl rfl (oneC_of rfl) (by rfl) fun w hp=>?_; try simp only [List.set_cons_zero,List.set_cons_succ,EV.val] at hp; conv=>whnf)
        (refine hp.kst1 TTok (by rfl) 0 (by rfl) (by rfl) (by rfl) (Nat.le_of_ble_eq_true rfl) fun w hp=>?_; try simp only [List.set_cons_zero,List.set_cons_succ,EV.val] at hp; conv=>whnf)
        (refine hKq _ _ _ (.refl _) ?_; clear hKq Kq; conv=>whnf)
        refine ⟨⟨fun h=>(by cases h),rfl⟩,CallsDIn.mono (def_idle _ _) ?_⟩
        rintro e u' w' ⟨rfl,x,rfl,rfl⟩
        conv=>whnf
        (refine ⟨_,Blk.lvN (hp.get (i:=1) rfl) TTok rfl rfl,?_⟩; conv=>whnf)
        (refine ⟨_,Blk.lv (hp.get (i:=0) rfl) TTok rfl rfl,?_⟩; conv=>whnf)
        rw [hc,hm] at hD
        rw [if_pos ⟨by simp only [Bool.and_eq_true,decide_eq_true_eq]; omega,ho,hst⟩] at hD
        subst hD
        refine .inl ⟨rfl,_,?_,hp.pick [3] (by decide)⟩
        rw [hT',hc,hm]
        rfl
       ·have hck:chkN ((A1 ||| A2:Nat):Int) ((A3 ||| A4 ||| A5:Nat):Int) (s.extract 8 20) (decA s).1=80:=by unfold chkN; rw [if_neg hst]
        refine V.CallP.out ?_
        conv=>arg 3; dsimp only [EV.val,List.toList_toArray,List.nil_append,List.append_nil,List.cons_append]
        refine V.CallP.use (must_fb (decide_eq_false (by intro h; have h2:chkN ((A1 ||| A2:Nat):Int) ((A3 ||| A4 ||| A5:Nat):Int) (s.extract 8 20) (decA s).1=0:=(by exact_mod_cast h); omega))) ?_
        rintro _ w ⟨rfl,hx⟩
        refine Or.inr ⟨_,rfl,?_⟩
        try (have hp:=hp.call hx)
        conv=>whnf
        rw [hc,hm] at hD
        refine ⟨⟨fun h=>(by cases h),rfl⟩,CallsDIn.mono (def_caught hp rfl) ?_⟩
        rintro _ _ w ⟨rfl,x,rfl,hp⟩
        conv=>whnf
        (refine ⟨_,Blk.lvN (hp.get (i:=1) rfl) TTok rfl rfl,?_⟩; conv=>whnf)
        (refine ⟨_,Blk.lv (hp.get (i:=0) rfl) TTok rfl rfl,?_⟩; conv=>whnf)
        rw [if_neg (fun h=>hst h.2.2)] at hD
        subst hD
        exact .inr ⟨by decide,rfl,hp.ext⟩
      ·have hp:=HpM.swap hp hr
       simp only [List.cons_append,List.nil_append,List.append_nil] at hp
       refine Or.inr ⟨_,rfl,?_⟩
       conv=>whnf
       refine ⟨⟨fun h=>(by cases h),rfl⟩,CallsDIn.mono (def_caught hp rfl) ?_⟩
       rintro _ _ w ⟨rfl,x,rfl,hp⟩
       conv=>whnf
       (refine ⟨_,Blk.lvN (hp.get (i:=1) rfl) TTok rfl rfl,?_⟩; conv=>whnf)
       (refine ⟨_,Blk.lv (hp.get (i:=0) rfl) TTok rfl rfl,?_⟩; conv=>whnf)
       rw [if_neg (fun h=>(by have:=h.2.1; rw [show (decA s).2=false from ho] at this; cases this))] at hD
       subst hD
       exact .inr ⟨by decide,rfl,hp.ext⟩
     ·have h5:=of_decide_eq_false h5
      conv=>whnf
      skip
      refine V.CallP.out ?_
      conv=>arg 3; dsimp only [EV.val,List.toList_toArray,List.nil_append,List.append_nil,List.cons_append]
      refine V.CallP.use (must_fb rfl) ?_
      rintro _ w ⟨rfl,hx⟩
      refine Or.inr ⟨_,rfl,?_⟩
      try (have hp:=hp.call hx)
      conv=>whnf
      refine ⟨⟨fun h=>(by cases h),rfl⟩,CallsDIn.mono (def_caught hp rfl) ?_⟩
      rintro _ _ w ⟨rfl,x,rfl,hp⟩
      conv=>whnf
      (refine ⟨_,Blk.lvN (hp.get (i:=1) rfl) TTok rfl rfl,?_⟩; conv=>whnf)
      (refine ⟨_,Blk.lv (hp.get (i:=0) rfl) TTok rfl rfl,?_⟩; conv=>whnf)
      rw [if_neg (fun h=>(by have:=h.1; simp only [Bool.and_eq_true,decide_eq_true_eq] at this; omega))] at hD
      subst hD
      exact .inr ⟨by decide,rfl,hp.ext⟩
    ·have h4:=of_decide_eq_false h4
     conv=>whnf
     refine hKq _ _ _ (.refl _) ?_
     clear hKq Kq
     conv=>whnf
     skip
     refine V.CallP.out ?_
     conv=>arg 3; dsimp only [EV.val,List.toList_toArray,List.nil_append,List.append_nil,List.cons_append]
     refine V.CallP.use (must_fb rfl) ?_
     rintro _ w ⟨rfl,hx⟩
     refine Or.inr ⟨_,rfl,?_⟩
     try (have hp:=hp.call hx)
     conv=>whnf
     refine ⟨⟨fun h=>(by cases h),rfl⟩,CallsDIn.mono (def_caught hp rfl) ?_⟩
     rintro _ _ w ⟨rfl,x,rfl,hp⟩
     conv=>whnf
     (refine ⟨_,Blk.lvN (hp.get (i:=1) rfl) TTok rfl rfl,?_⟩; conv=>whnf)
     (refine ⟨_,Blk.lv (hp.get (i:=0) rfl) TTok rfl rfl,?_⟩; conv=>whnf)
     rw [if_neg (fun h=>(by have:=h.1; simp only [Bool.and_eq_true,decide_eq_true_eq] at this; omega))] at hD
     subst hD
     exact .inr ⟨by decide,rfl,hp.ext⟩
set_option maxHeartbeats 4000000
def kadj (c i n:Nat):Nat:=if i=7 then 2 * n+c / 2 else if i=4 then 2 * n+c % 2 else n
def kindR (c m:Nat):Nat→Nat→Nat
 | 0,n=>n
 | i+1,n=>kindR c m i (kadj c i (2 * n+m / 2 ^ i % 2))
theorem kadj_le (c i n:Nat):n≤kadj c i n:=by unfold kadj; split <;> (try split) <;> omega
theorem kindR_le (c m:Nat):∀ i n,n≤kindR c m i n
 | 0,n=>Nat.le_refl n
 | i+1,n=>Nat.le_trans (by have:=kadj_le c i (2 * n+m / 2 ^ i % 2); omega) (kindR_le c m i _)
def kadjB (c i n:Nat):Nat:=match Nat.beq i 7 with
 | true=>Nat.add (Nat.mul 2 n) (Nat.div c 2)
 | false=>match Nat.beq i 4 with
  | true=>Nat.add (Nat.mul 2 n) (Nat.mod c 2)
  | false=>n
def kindRB (c m:Nat) (n:Nat):Nat :=
 let f:=fun i n=>kadjB c i (Nat.add (Nat.mul 2 n) (Nat.mod (Nat.shiftRight m i) 2))
 f 0 (f 1 (f 2 (f 3 (f 4 (f 5 (f 6 (f 7 (f 8 (f 9 (f 10 (f 11 n)))))))))))
theorem kadjB_eq (c i n:Nat):kadjB c i n=kadj c i n:=by
 unfold kadjB kadj
 by_cases h:i=7
 ·subst h; rfl
 ·rw [show Nat.beq i 7=false from beqF h,if_neg h]
  dsimp only
  by_cases h4:i=4
  ·subst h4; rfl
  ·rw [show Nat.beq i 4=false from beqF h4,if_neg h4]
theorem kindRB_eq (c m n:Nat):kindRB c m n=kindR c m 12 n:=by
 have hs:∀ i n,kadjB c i (Nat.add (Nat.mul 2 n) (Nat.mod (Nat.shiftRight m i) 2))=kadj c i (2 * n+m / 2 ^ i % 2):=fun i n=>by
  rw [kadjB_eq]
  show kadj c i (2 * n+(m >>> i) % 2)=_
  rw [Nat.shiftRight_eq_div_pow]
 unfold kindRB
 simp only [hs]
 rfl
theorem kindR_all:(List.range 16384).all (fun x=>Nat.beq (kindRB (x / 4096) (x % 4096) 0) (kindN (x / 4096) (x % 4096)))=true:=by decide +kernel
theorem kindR_eq {c m:Nat} (hc:c < 4) (hm:m < 4096):kindR c m 12 0=kindN c m:=by
 have:=List.all_eq_true.1 kindR_all (c * 4096+m) (List.mem_range.2 (by omega))
 rw [show (c * 4096+m) / 4096=c by omega,show (c * 4096+m) % 4096=m by omega,kindRB_eq] at this
 exact Nat.eq_of_beq_eq_true this
set_option maxHeartbeats 1600000
theorem up_p (n:Nat) (hn:n≤100000):PureF Tryz.prog 75 #[.int .i64 n,.int .i64 4] (.int .i64 (n+padN n:Nat)):=by
 have hq:padN n≤3∧(n+padN n) % 4=0∧∀ i,i < padN n→(n+i) % 4≠0:=by unfold padN; refine ⟨by omega,by omega,fun i hi=>by omega⟩
 obtain ⟨h3,h0,hlt⟩:=hq
 generalize padN n=p at *
 first | refine v_pure TTok FFok Tryz.func75 rfl rfl fun w0=>?_ | refine v_pure (args:=[]) TTok FFok Tryz.func75 rfl rfl fun w0=>?_
 conv=>whnf
 refine VSeq.mk fun Kq hKq=>?_
 conv=>whnf
 refine hKq _ _ _ (.refl _) ?_
 clear hKq Kq
 conv=>whnf
 refine VSeq.mk fun Kq hKq=>?_
 conv=>whnf
 refine ⟨fun mm e w'=>∃ (i:Nat),mm+i=p∧e=[(0,.v (.int .i64 (n+i:Nat))),(1,.v (.int .i64 4))]∧Ext w0 w',⟨p,_,⟨0,by omega,rfl,Ext.refl _⟩,sub_cons rfl (sub_cons rfl sub_nil)⟩,?_⟩
 rintro mm _ w ⟨i,hmm,rfl,hx⟩
 conv=>whnf
 refine VSeq.mk fun Kq hKq=>?_
 conv=>whnf
 refine VSeq.mk fun Kq hKq=>?_
 conv=>whnf
 refine And.intro (by omega) ?_
 conv=>whnf
 refine hKq _ _ _ (.refl _) ?_
 clear hKq Kq
 conv=>whnf
 refine ⟨fun hl=>?_,fun hl=>?_⟩
 ·have hl:=of_decide_eq_true hl
  conv=>whnf
  refine hKq _ _ _ (.refl _) ?_
  clear hKq Kq
  conv=>whnf
  refine Or.inl (And.intro (by omega) ?_)
  conv=>whnf
  have hi:i < p:=by
   by_cases h:i < p
   ·exact h
   ·exfalso
    have:i=p:=by omega
    subst this
    omega
  conv=>whnf
  exact ⟨mm - 1,_,by omega,⟨i+1,by omega,rfl,hx⟩,sub_cons (look_int rfl (by omega)) (sub_cons rfl sub_nil)⟩
 ·have hl:=of_decide_eq_false hl
  conv=>whnf
  clear hKq Kq
  refine hKq _ _ _ (.refl _) ?_
  clear hKq Kq
  conv=>whnf
  refine VSeq.mk fun Kq hKq=>?_
  conv=>whnf
  refine hKq _ _ _ (.refl _) ?_
  clear hKq Kq
  conv=>whnf
  have hi:i=p:=by
   by_cases h:i < p
   ·exfalso
    have:=hlt i h
    omega
   ·omega
  subst hi
  conv=>whnf
  exact ⟨rfl,hx⟩
theorem up_eq (n:Nat):n+padN n=(n+3) / 4 * 4:=by unfold padN; omega
theorem beL_cons (n v:Nat):beL (n+1) v=UInt8.ofNat (v / 2 ^ (8 * n)) :: beL n v:=by
 unfold beL
 rw [List.range_succ_eq_map,List.map_cons,List.map_map]
 congr 1
 apply List.map_congr_left
 intro i hi
 rw [Function.comp,show n+1 - 1 - (i+1)=n - 1 - i by omega]
theorem pow_step (v i:Nat):v / 2 ^ (8 * i) / 256=v / 2 ^ (8 * (i+1)):=by
 rw [Nat.div_div_eq_div_mul,show 8 * (i+1)=8 * i+8 by omega,Nat.pow_add]
theorem put_p (n v:Nat) (hn:n≤100) (hv:v≤9223372036854775807):PureF Tryz.prog 87 #[.int .i64 n,.int .i64 v] (.string (beB n v)):=by
 first | refine v_pure TTok FFok Tryz.func87 rfl rfl fun w0=>?_ | refine v_pure (args:=[]) TTok FFok Tryz.func87 rfl rfl fun w0=>?_
 conv=>whnf
 refine VSeq.mk fun Kq hKq=>?_
 conv=>whnf
 refine hKq _ _ _ (.refl _) ?_
 clear hKq Kq
 conv=>whnf
 refine VSeq.mk fun Kq hKq=>?_
 conv=>whnf
 refine hKq _ _ _ (.refl _) ?_
 clear hKq Kq
 conv=>whnf
 refine VSeq.mk fun Kq hKq=>?_
 conv=>whnf
 refine VSeq.mk fun Kq hKq=>?_
 conv=>whnf
 refine hKq _ _ _ (.refl _) ?_
 clear hKq Kq
 conv=>whnf
 refine ⟨fun mm e w'=>∃ (i:Nat),mm+i=n∧e=[(0,.v (.int .i64 n)),(1,.v (.int .i64 (v / 2 ^ (8 * i):Nat))),(5,.v (.string (beB i v))),(6,.v (.int .i64 i))]∧Ext w0 w',⟨n,_,⟨0,by omega,rfl,Ext.refl _⟩,sub_cons rfl (sub_cons (look_int rfl (by rw [Nat.mul_zero,Nat.pow_zero,Nat.div_one])) (sub_cons rfl (sub_cons rfl sub_nil)))⟩,?_⟩
 rintro mm _ w ⟨i,hmm,rfl,hxw⟩
 have hd:v / 2 ^ (8 * i)≤v:=Nat.div_le_self _ _
 obtain ⟨u,hu⟩:∃ u,v / 2 ^ (8 * i)=u:=⟨_,rfl⟩
 have hu2:=pow_step v i
 have hcons:=beL_cons i v
 rw [hu] at hd hu2 hcons ⊢
 have hb:((u:Nat):Int) % 256 % 256=(((UInt8.ofNat u).toNat:Nat):Int):=by rw [UInt8.toNat_ofNat']; omega
 have hp:=HpM.nil0 [] w
 have hz:=beB_size i v
 conv=>whnf
 refine VSeq.mk fun Kq hKq=>?_
 conv=>whnf
 refine VSeq.mk fun Kq hKq=>?_
 conv=>whnf
 refine hKq _ _ _ (.refl _) ?_
 clear hKq Kq
 conv=>whnf
 refine ⟨fun hl=>?_,fun hl=>?_⟩
 ·have hl:=of_decide_eq_true hl
  conv=>whnf
  refine hKq _ _ _ (.refl _) ?_
  clear hKq Kq
  conv=>whnf
  refine VSeq.mk fun Kq hKq=>?_
  conv=>whnf
  refine VSeq.mk fun Kq hKq=>?_
  conv=>whnf
  refine And.intro (by omega) ?_
  conv=>whnf
  conv=>whnf
  rw [hb]
  refine hp.kmade (bytesV [UInt8.ofNat u]) 5 (fun b=>.slice (some ⟨b,0,none⟩) 1 1) (by kernel_rfl) fun qb w hp hx=>?_
  conv=>whnf
  refine ⟨_,_,Blk.str (l:=[UInt8.ofNat u]) (hp.get (i:=0) rfl) TTok rfl rfl rfl rfl rfl,?_⟩
  conv=>whnf
  refine And.intro (by show 1+(beB i v).size≤_; omega) ?_
  conv=>whnf
  refine hKq _ _ _ (.refl _) ?_
  clear hKq Kq
  conv=>whnf
  refine And.intro (by omega) ?_
  conv=>whnf
  refine hKq _ _ _ (.refl _) ?_
  clear hKq Kq
  conv=>whnf
  refine Or.inl (And.intro (by omega) ?_)
  conv=>whnf
  refine ⟨mm - 1,_,by omega,⟨i+1,by omega,rfl,hxw.trans hp.ext⟩,sub_cons rfl (sub_cons (look_int rfl ?_) (sub_cons (look_str rfl ?_) (sub_cons rfl sub_nil)))⟩
  ·rw [← hu2]; omega
  ·unfold beB; rw [hcons]
   apply ByteArray.ext
   simp
 ·have hl:=of_decide_eq_false hl
  conv=>whnf
  clear hKq Kq
  refine hKq _ _ _ (.refl _) ?_
  clear hKq Kq
  conv=>whnf
  refine VSeq.mk fun Kq hKq=>?_
  conv=>whnf
  refine hKq _ _ _ (.refl _) ?_
  clear hKq Kq
  conv=>whnf
  obtain rfl:i=n:=by omega
  conv=>whnf
  exact ⟨rfl,hxw⟩
theorem zeros_p (n:Nat) (hn:n≤100000):PureF Tryz.prog 140 #[.int .i64 n] (.string ⟨(List.replicate n 0).toArray⟩):=by
 first | refine v_pure TTok FFok Tryz.func140 rfl rfl fun w0=>?_ | refine v_pure (args:=[]) TTok FFok Tryz.func140 rfl rfl fun w0=>?_
 conv=>whnf
 refine VSeq.mk fun Kq hKq=>?_
 conv=>whnf
 refine hKq _ _ _ (.refl _) ?_
 clear hKq Kq
 conv=>whnf
 refine VSeq.mk fun Kq hKq=>?_
 conv=>whnf
 have hp:=Hp.nil w0
 refine hp.kmkS sl88 z5 n (by omega) (by unfold maxLen; omega) fun b w hp hx=>?_
 rw [bytesV_rep] at hp
 conv=>whnf
 refine ⟨_,_,Blk.str (l:=List.replicate n 0) (hp.get (i:=0) rfl) TTok rfl rfl rfl rfl (by rw [List.length_replicate]),?_⟩
 conv=>whnf
 refine hKq _ _ _ (.refl _) ?_
 clear hKq Kq
 conv=>whnf
 exact ⟨rfl,hp.ext⟩
theorem pad_app (s:ByteArray):s++⟨(List.replicate (padN s.size) 0).toArray⟩=padB s:=by
 unfold padB
 apply ByteArray.ext
 simp
theorem pad_p (s:ByteArray) (hs:s.size≤90000):PureF Tryz.prog 113 #[.string s,.int .i64 4] (.string (padB s)):=by
 have h3:padN s.size≤3:=by unfold padN; omega
 have hup:=up_p s.size (by omega)
 have hze:=zeros_p (padN s.size) (by omega)
 have hsz:(⟨(List.replicate (padN s.size) 0).toArray⟩:ByteArray).size=padN s.size:=by show (List.replicate _ _).toArray.size=_; rw [List.size_toArray,List.length_replicate]
 rw [← pad_app]
 first | refine v_pure TTok FFok Tryz.func113 rfl rfl fun w0=>?_ | refine v_pure (args:=[]) TTok FFok Tryz.func113 rfl rfl fun w0=>?_
 conv=>whnf
 refine VSeq.mk fun Kq hKq=>?_
 conv=>whnf
 refine hKq _ _ _ (.refl _) ?_
 clear hKq Kq
 conv=>whnf
 refine VSeq.mk fun Kq hKq=>?_
 conv=>whnf
 have hp:=Hp.nil w0
 refine PureF.use (hup) fun w hx=>?_
 try (have hp:=hp.call hx)
 conv=>whnf
 refine Or.inl (And.intro (by omega) ?_)
 conv=>whnf
 rw [show ((s.size+padN s.size:Nat):Int) - (s.size:Int)=((padN s.size:Nat):Int) by omega]
 refine PureF.use (hze) fun w hx=>?_
 try (have hp:=hp.call hx)
 conv=>whnf
 refine And.intro (by omega) ?_
 conv=>whnf
 refine hKq _ _ _ (.refl _) ?_
 clear hKq Kq
 conv=>whnf
 exact ⟨rfl,hp.ext⟩
/-! hexadecimal text -/
def hexD:List UInt8:=[48,49,50,51,52,53,54,55,56,57,97,98,99,100,101,102]
theorem digits_p:PureF Tryz.prog 139 #[] (.agg (bytesV hexD).toArray):=by
 first | refine v_pure TTok FFok Tryz.func139 rfl rfl fun w0=>?_ | refine v_pure (args:=[]) TTok FFok Tryz.func139 rfl rfl fun w0=>?_
 conv=>whnf
 refine VSeq.mk fun Kq hKq=>?_
 conv=>whnf
 have hp:=Hp.nil w0
 refine hp.kalloc z212 fun o w hp hx=>?_
 conv=>whnf
 refine hKq _ _ _ (.refl _) ?_
 clear hKq Kq
 conv=>whnf
 refine VSeq.mk fun Kq hKq=>?_
 conv=>whnf
 refine hp.kmade (bytesV hexD) 5 (fun b=>.slice (some ⟨b,0,none⟩) 16 16) (by kernel_rfl) fun tb w hp hx=>?_
 conv=>whnf
 refine hp.kfz TTok rfl rfl 0 rfl fun w hp=>?_
 conv=>whnf
 refine ⟨_,_,run_arr TTok rfl (Nat.le_refl _),?_⟩
 conv=>whnf
 refine ⟨_,_,Blk.ldN (hp.get (i:=0) rfl) TTok rfl (by rfl),?_⟩
 conv=>whnf
 refine hp.kstA TTok rfl 1 rfl (by rfl) (one_bytes _) (by simp) fun w hp=>?_
 try simp only [List.set_cons_zero,List.set_cons_succ,EV.val] at hp
 conv=>whnf
 refine hKq _ _ _ (.refl _) ?_
 clear hKq Kq
 conv=>whnf
 exact ⟨_,Blk.lvN (hp.get (i:=1) rfl) TTok rfl (by rfl),rfl,hp.ext⟩
/-- hexadecimal digits -/
def hexL (s:List UInt8):List UInt8:=s.flatMap fun x=>[hexD.getD (x.toNat / 16) 0,hexD.getD (x.toNat % 16) 0]
theorem hexL_take (s:List UInt8) (j:Nat) (h:j < s.length):hexL (s.take (j+1))=hexL (s.take j)++[hexD.getD (s[j].toNat / 16) 0,hexD.getD (s[j].toNat % 16) 0]:=by
 rw [List.take_succ_eq_append_getElem h]; unfold hexL; rw [List.flatMap_append]; rfl
theorem hexD_get (i:Nat) (h:i < 16):(bytesV hexD)[i]? = some (.int .u8 ((hexD.getD i 0).toNat:Nat)):=by
 refine bytesV_get ?_
 rw [List.getD_eq_getElem?_getD,List.getElem?_eq_getElem (by simpa [hexD] using h)]; rfl
theorem Hex_p (s:ByteArray) (hs:s.size≤1000000):PureF Tryz.prog 112 #[.string s] (.string ⟨(hexL s.data.toList).toArray⟩):=by
 have hsl:s.data.toList.length=s.size:=by simp
 first | refine v_pure TTok FFok Tryz.func112 rfl rfl fun w0=>?_ | refine v_pure (args:=[]) TTok FFok Tryz.func112 rfl rfl fun w0=>?_
 conv=>whnf
 refine VSeq.mk fun Kq hKq=>?_
 conv=>whnf
 refine hKq _ _ _ (.refl _) ?_
 clear hKq Kq
 conv=>whnf
 refine VSeq.mk fun Kq hKq=>?_
 conv=>whnf
 have hp:=Hp.nil w0
 refine PureF.use (digits_p) fun w hx=>?_
 try (have hp:=hp.call hx)
 conv=>whnf
 refine hp.kalloc z212 fun o w hp hx=>?_
 conv=>whnf
 refine hp.kstA TTok rfl 0 rfl (by rfl) (one_bytes _) (by simp) fun w hp=>?_
 try simp only [List.set_cons_zero,List.set_cons_succ,EV.val] at hp
 conv=>whnf
 refine hKq _ _ _ (.refl _) ?_
 clear hKq Kq
 conv=>whnf
 refine VSeq.mk fun Kq hKq=>?_
 conv=>whnf
 refine hKq _ _ _ (.refl _) ?_
 clear hKq Kq
 conv=>whnf
 refine VSeq.mk fun Kq hKq=>?_
 conv=>whnf
 refine VSeq.mk fun Kq hKq=>?_
 conv=>whnf
 refine hKq _ _ _ (.refl _) ?_
 clear hKq Kq
 conv=>whnf
 have hp:=hp.knil 5 1
 clear hx
 refine ⟨fun m l w=>∃ (j:Nat) (v:Value),m+j=s.size∧l=[(0,.v (.string s)),(3,.v (.pointer (some ⟨o,0,none⟩))),(4,.v v),(8,.v (.int .i64 s.size)),(9,.v (.int .i64 j))] ∧
   Hp w0 w [row 5 1 v (2 * j) (bytesV (hexL (s.data.toList.take j))),blk o (bytesV hexD) 212],
  ⟨s.size,_,⟨0,_,by omega,rfl,hp⟩,sub_cons rfl (sub_cons rfl (sub_cons rfl (sub_cons rfl (sub_cons rfl sub_nil))))⟩,?_⟩
 clear hp
 repeat clear hp
 rintro m _ w ⟨j,v,hm,rfl,hp⟩
 conv=>whnf
 refine VSeq.mk fun Kq hKq=>?_
 conv=>whnf
 refine hKq _ _ _ (.refl _) ?_
 clear hKq Kq
 conv=>whnf
 refine VSeq.mk fun Kq hKq=>?_
 conv=>whnf
 refine ⟨fun hlt=>?_,fun hlt=>?_⟩
 ·have hlt:=of_decide_eq_true hlt
  conv=>whnf
  refine hKq _ _ _ (.refl _) ?_
  clear hKq Kq
  conv=>whnf
  refine VSeq.mk fun Kq hKq=>?_
  conv=>whnf
  refine VSeq.mk fun Kq hKq=>?_
  conv=>whnf
  refine hKq _ _ _ (.refl _) ?_
  clear hKq Kq
  conv=>whnf
  have hj:j < s.size:=by omega
  have hjl:j < s.data.toList.length:=by rw [hsl]; exact hj
  have hS:byt s j=(s.data.toList[j]).toNat:=by unfold byt; simp [List.getD_eq_getElem?_getD,hj]
  have hX:=s.data.toList[j].toNat_lt
  have htk:=hexL_take s.data.toList j hjl
  generalize s.data.toList[j]=x at *
  have hand:byt s j &&& 15=byt s j % 16:=Nat.and_two_pow_sub_one_eq_mod _ 4
  refine v_mix TTok FFok mixed 14 [(0,false),(1,false),(2,false),(3,false),(4,false),(5,false),(6,false),(7,false),(8,false),(9,false),(10,false),(11,false),(12,false),(13,true)] (by kernel_rfl) ?_
  conv=>whnf
  refine ⟨j,⟨by first | rfl | omega,by omega⟩,?_⟩
  conv=>whnf
  refine ⟨4,⟨by first | rfl | omega,by omega⟩,?_⟩
  conv=>whnf
  refine ⟨x.toNat / 16,⟨by first | rfl | omega,by omega⟩,?_⟩
  conv=>whnf
  refine ⟨_,fun w' hx'=>Blk.ld (Blk.ext (hp.get (i:=1) rfl) hx') TTok rfl (hexD_get (x.toNat / 16) (by omega)),?_⟩
  conv=>whnf
  refine ⟨j,⟨by first | rfl | omega,by omega⟩,?_⟩
  conv=>whnf
  refine ⟨byt s j,15,x.toNat % 16,⟨by first | rfl | omega,by first | rfl | omega,by omega,by omega⟩,by (dsimp only; rw [hand,hS]),?_⟩
  conv=>whnf
  refine ⟨x.toNat % 16,⟨by first | rfl | omega,by omega⟩,?_⟩
  conv=>whnf
  refine ⟨_,fun w' hx'=>Blk.ld (Blk.ext (hp.get (i:=1) rfl) hx') TTok rfl (hexD_get (x.toNat % 16) (by omega)),?_⟩
  conv=>whnf
  intro w hx
  try (have hp:=hp.call hx)
  conv=>whnf
  refine hp.kmade (bytesV [hexD.getD (x.toNat / 16) 0,hexD.getD (x.toNat % 16) 0]) 5 (fun b=>.slice (some ⟨b,0,none⟩) 2 2) (by kernel_rfl) fun tb w hp hx=>?_
  conv=>whnf
  refine And.intro hx ?_
  conv=>whnf
  intro w hx
  try (have hp:=hp.call hx)
  conv=>whnf
  refine hp.kapp (by kernel_rfl:slOk Tryz.prog 88 5 1 1=true) 1 rfl (Blk.src TTok (hp.get (i:=0) rfl) rfl rfl (one_bytes _)) (by omega) (by unfold maxLen; omega) fun v' w hp=>?_
  simp only [List.set_cons_zero,List.set_cons_succ] at hp
  conv=>whnf
  refine hKq _ _ _ (.refl _) ?_
  clear hKq Kq
  conv=>whnf
  refine Or.inl (And.intro (by omega) ?_)
  conv=>whnf
  refine ⟨m - 1,_,by omega,⟨j+1,v',by omega,rfl,?_⟩,sub_cons rfl (sub_cons rfl (sub_cons rfl (sub_cons rfl (sub_cons rfl sub_nil))))⟩
  rw [htk,bytesV_app]; exact hp.tail
 ·have hlt:=of_decide_eq_false hlt
  conv=>whnf
  clear hKq Kq
  refine hKq _ _ _ (.refl _) ?_
  clear hKq Kq
  conv=>whnf
  refine VSeq.mk fun Kq hKq=>?_
  conv=>whnf
  obtain rfl:j=s.size:=by omega
  rw [List.take_of_length_le (by rw [hsl]; omega)] at hp
  refine ⟨_,_,row_str (hp.get (i:=0) rfl) TTok rfl rfl rfl,?_⟩
  conv=>whnf
  refine hKq _ _ _ (.refl _) ?_
  clear hKq Kq
  conv=>whnf
  exact ⟨rfl,hp.ext⟩
set_option maxHeartbeats 3200000
theorem kind8_p (c m:Nat) (hc:c < 4) (hm:m < 4096):PureF Tryz.prog 74 #[.int .i64 c,.int .i64 m] (.int .i64 (kindN c m)):=by
 have hkb:=kindN_bd c m
 have hk0:=kindR_eq hc hm
 generalize kindN c m=K at *
 first | refine v_pure TTok FFok Tryz.func74 rfl rfl fun w0=>?_ | refine v_pure (args:=[]) TTok FFok Tryz.func74 rfl rfl fun w0=>?_
 conv=>whnf
 refine VSeq.mk fun Kq hKq=>?_
 conv=>whnf
 refine hKq _ _ _ (.refl _) ?_
 clear hKq Kq
 conv=>whnf
 refine VSeq.mk fun Kq hKq=>?_
 conv=>whnf
 refine hKq _ _ _ (.refl _) ?_
 clear hKq Kq
 conv=>whnf
 refine VSeq.mk fun Kq hKq=>?_
 conv=>whnf
 refine VSeq.mk fun Kq hKq=>?_
 conv=>whnf
 refine hKq _ _ _ (.refl _) ?_
 clear hKq Kq
 conv=>whnf
 refine ⟨fun mm e w'=>∃ (k n:Nat),mm=k∧e=[(0,.v (.int .i64 c)),(1,.v (.int .i64 m)),(5,.v (.int .i64 n)),(6,.v (.int .i64 ((k:Int) - 1)))]∧kindR c m k n=K∧k≤12∧Ext w0 w',
  ⟨12,_,⟨12,0,rfl,rfl,hk0,by omega,Ext.refl _⟩,sub_cons rfl (sub_cons rfl (sub_cons rfl (sub_cons (look_int rfl (by decide)) sub_nil)))⟩,?_⟩
 clear hk0
 rintro mm _ w ⟨k,n,hmm,rfl,hk,h12,hx⟩
 have hn:=kindR_le c m k n
 rw [hk] at hn
 conv=>whnf
 refine VSeq.mk fun Kq hKq=>?_
 conv=>whnf
 refine VSeq.mk fun Kq hKq=>?_
 conv=>whnf
 refine hKq _ _ _ (.refl _) ?_
 clear hKq Kq
 conv=>whnf
 refine ⟨fun hl=>?_,fun hl=>?_⟩
 ·have hl:=of_decide_eq_true hl
  conv=>whnf
  refine hKq _ _ _ (.refl _) ?_
  clear hKq Kq
  conv=>whnf
  refine VSeq.mk fun Kq hKq=>?_
  conv=>whnf
  refine VSeq.mk fun Kq hKq=>?_
  conv=>whnf
  refine Or.inl (And.intro (by omega) ?_)
  conv=>whnf
  refine And.intro (by omega) ?_
  conv=>whnf
  obtain ⟨j,rfl⟩:∃ j,k=j+1:=⟨k - 1,by omega⟩
  have hk:kindR c m j (kadj c j (2 * n+m / 2 ^ j % 2))=K:=hk
  have hq:((m:Nat):Int) / 2 ^ j=((m / 2 ^ j:Nat):Int):=by rw [Int.natCast_ediv,Int.natCast_pow]; rfl
  conv=>whnf
  refine ⟨j,⟨by first | rfl | omega,by omega⟩,?_⟩
  conv=>whnf
  rw [hq]
  clear hq
  generalize m / 2 ^ j=q at *
  have hn2:=kindR_le c m j (kadj c j (2 * n+q % 2))
  rw [hk] at hn2
  have hn3:=kadj_le c j (2 * n+q % 2)
  conv=>whnf
  refine And.intro (by omega) ?_
  conv=>whnf
  refine Or.inl (And.intro (by omega) ?_)
  conv=>whnf
  refine hKq _ _ _ (.refl _) ?_
  clear hKq Kq
  conv=>whnf
  refine VSeq.mk fun Kq hKq=>?_
  conv=>whnf
  refine VSeq.mk fun Kq hKq=>?_
  conv=>whnf
  refine hKq _ _ _ (.refl _) ?_
  clear hKq Kq
  conv=>whnf
  refine ⟨fun h7=>?_,fun h7=>?_⟩
  ·have h7:=of_decide_eq_true h7
   conv=>whnf
   refine Or.inl (And.intro (by omega) ?_)
   conv=>whnf
   refine And.intro (by omega) ?_
   conv=>whnf
   refine Or.inl (And.intro (by omega) ?_)
   conv=>whnf
   refine hKq _ _ _ (.refl _) ?_
   clear hKq Kq
   conv=>whnf
   refine VSeq.mk fun Kq hKq=>?_
   conv=>whnf
   refine hKq _ _ _ (.refl _) ?_
   clear hKq Kq
   conv=>whnf
   obtain rfl:j=7:=by omega
   have ha:kadj c 7 (2 * n+q % 2)=2 * (2 * n+q % 2)+c / 2:=rfl
   rw [ha] at hk hn2 hn3
   conv=>whnf
   refine ⟨fun h4=>?_,fun h4=>?_⟩
   ·have h4:=of_decide_eq_true h4
    conv=>whnf
    refine Or.inl (And.intro (by omega) ?_)
    conv=>whnf
    refine And.intro (by omega) ?_
    conv=>whnf
    refine Or.inl (And.intro (by omega) ?_)
    conv=>whnf
    refine hKq _ _ _ (.refl _) ?_
    clear hKq Kq
    conv=>whnf
    refine Or.inl (And.intro (by omega) ?_)
    conv=>whnf
    exfalso; omega
   ·conv=>whnf
    refine hKq _ _ _ (.refl _) ?_
    clear hKq Kq
    conv=>whnf
    refine Or.inl (And.intro (by omega) ?_)
    conv=>whnf
    exact ⟨7,_,by omega,⟨7,_,rfl,rfl,hk,by omega,hx⟩,sub_cons rfl (sub_cons rfl (sub_cons (look_int rfl (by omega)) (sub_cons (look_int rfl (by omega)) sub_nil)))⟩
  ·have h7:=of_decide_eq_false h7
   conv=>whnf
   refine hKq _ _ _ (.refl _) ?_
   clear hKq Kq
   conv=>whnf
   refine VSeq.mk fun Kq hKq=>?_
   conv=>whnf
   refine hKq _ _ _ (.refl _) ?_
   clear hKq Kq
   conv=>whnf
   conv=>whnf
   refine ⟨fun h4=>?_,fun h4=>?_⟩
   ·have h4:=of_decide_eq_true h4
    conv=>whnf
    refine Or.inl (And.intro (by omega) ?_)
    conv=>whnf
    refine And.intro (by omega) ?_
    conv=>whnf
    refine Or.inl (And.intro (by omega) ?_)
    conv=>whnf
    refine hKq _ _ _ (.refl _) ?_
    clear hKq Kq
    conv=>whnf
    refine Or.inl (And.intro (by omega) ?_)
    conv=>whnf
    obtain rfl:j=4:=by omega
    have ha:kadj c 4 (2 * n+q % 2)=2 * (2 * n+q % 2)+c % 2:=rfl
    rw [ha] at hk hn2 hn3
    conv=>whnf
    exact ⟨4,_,by omega,⟨4,_,rfl,rfl,hk,by omega,hx⟩,sub_cons rfl (sub_cons rfl (sub_cons (look_int rfl (by omega)) (sub_cons (look_int rfl (by omega)) sub_nil)))⟩
   ·have h4:=of_decide_eq_false h4
    conv=>whnf
    refine hKq _ _ _ (.refl _) ?_
    clear hKq Kq
    conv=>whnf
    refine Or.inl (And.intro (by omega) ?_)
    conv=>whnf
    have ha:kadj c j (2 * n+q % 2)=2 * n+q % 2:=by unfold kadj; rw [if_neg (by omega),if_neg (by omega)]
    rw [ha] at hk hn2 hn3
    conv=>whnf
    exact ⟨j,_,by omega,⟨j,_,rfl,rfl,hk,by omega,hx⟩,sub_cons rfl (sub_cons rfl (sub_cons (look_int rfl (by omega)) (sub_cons (look_int rfl (by omega)) sub_nil)))⟩
 ·have hl:=of_decide_eq_false hl
  conv=>whnf
  clear hKq Kq
  refine hKq _ _ _ (.refl _) ?_
  clear hKq Kq
  conv=>whnf
  refine VSeq.mk fun Kq hKq=>?_
  conv=>whnf
  refine hKq _ _ _ (.refl _) ?_
  clear hKq Kq
  conv=>whnf
  obtain rfl:k=0:=by omega
  have hk:n=K:=hk
  subst hk
  conv=>whnf
  exact ⟨rfl,hx⟩
theorem xor8_p (s b:ByteArray) (h:s.size≤b.size) (hs:s.size≤100000):PureF Tryz.prog 88 #[.string s,.string b] (.string (xorB s b)):=by
 have hsl:=toList_len s
 have hbl:=toList_len b
 have hh:s.data.toList.length≤b.data.toList.length:=by omega
 have hxl:=xorL_len _ _ hh
 have hg:=xorL_get s.data.toList b.data.toList hh
 have hB:∀ i,byt b i=(b.data.toList.getD i 0).toNat:=fun i=>rfl
 have hS:∀ i,byt s i=(s.data.toList.getD i 0).toNat:=fun i=>rfl
 unfold xorB
 obtain ⟨S,hSd⟩:∃ S,s.data.toList=S:=⟨_,rfl⟩
 obtain ⟨B,hBd⟩:∃ B,b.data.toList=B:=⟨_,rfl⟩
 rw [hSd] at hsl hh hxl hS hg ⊢
 rw [hBd] at hbl hh hxl hB hg ⊢
 first | refine v_pure TTok FFok Tryz.func88 rfl rfl fun w0=>?_ | refine v_pure (args:=[]) TTok FFok Tryz.func88 rfl rfl fun w0=>?_
 conv=>whnf
 refine VSeq.mk fun Kq hKq=>?_
 conv=>whnf
 refine hKq _ _ _ (.refl _) ?_
 clear hKq Kq
 conv=>whnf
 refine VSeq.mk fun Kq hKq=>?_
 conv=>whnf
 refine hKq _ _ _ (.refl _) ?_
 clear hKq Kq
 conv=>whnf
 refine VSeq.mk fun Kq hKq=>?_
 conv=>whnf
 refine VSeq.mk fun Kq hKq=>?_
 conv=>whnf
 refine hKq _ _ _ (.refl _) ?_
 clear hKq Kq
 conv=>whnf
 have hp:=Hp.nil w0
 have hp:=hp.knil 5 1
 refine ⟨fun mm l w=>∃ (j:Nat) (v:Value),mm+j=s.size∧l=[(0,.v (.string s)),(1,.v (.string b)),(5,.v v),(6,.v (.int .i64 j))]∧Hp w0 w [row 5 1 v j (bytesV ((xorL S B).take j))],
  ⟨s.size,_,⟨0,_,by omega,rfl,hp⟩,sub_cons rfl (sub_cons rfl (sub_cons rfl (sub_cons rfl sub_nil)))⟩,?_⟩
 clear hp
 repeat clear hp
 rintro mm _ w ⟨j,v,hm,rfl,hp⟩
 conv=>whnf
 refine VSeq.mk fun Kq hKq=>?_
 conv=>whnf
 refine VSeq.mk fun Kq hKq=>?_
 conv=>whnf
 refine hKq _ _ _ (.refl _) ?_
 clear hKq Kq
 conv=>whnf
 refine ⟨fun hlt=>?_,fun hlt=>?_⟩
 ·have hlt:=of_decide_eq_true hlt
  conv=>whnf
  refine hKq _ _ _ (.refl _) ?_
  clear hKq Kq
  conv=>whnf
  refine VSeq.mk fun Kq hKq=>?_
  conv=>whnf
  have hj:j < S.length:=by omega
  have hgj:=hg j hj
  have u1:=(S.getD j 0).toNat_lt
  have u2:=(B.getD j 0).toNat_lt
  have htk:(xorL S B).take (j+1)=(xorL S B).take j++[S.getD j 0 ^^^ B.getD j 0]:=by
   rw [List.take_add_one,← hgj,List.getD_eq_getElem?_getD,List.getElem?_eq_getElem (by omega)]; rfl
  refine v_mix TTok FFok mixed 9 [(0,false),(1,false),(2,false),(3,false),(4,false),(5,false),(6,false),(7,false),(8,true)] (by kernel_rfl) ?_
  conv=>whnf
  refine ⟨j,⟨by first | rfl | omega,by omega⟩,?_⟩
  conv=>whnf
  rw [hS]
  refine ⟨j,⟨by first | rfl | omega,by omega⟩,?_⟩
  conv=>whnf
  rw [hB]
  refine ⟨(S.getD j 0).toNat,(B.getD j 0).toNat,(S.getD j 0 ^^^ B.getD j 0).toNat,⟨by first | rfl | omega,by first | rfl | omega,by omega,by omega⟩,by (dsimp only; exact (UInt8.toNat_xor _ _).symm),?_⟩
  conv=>whnf
  intro w hx
  try (have hp:=hp.call hx)
  conv=>whnf
  refine hp.kmade (bytesV [S.getD j 0 ^^^ B.getD j 0]) 5 (fun b=>.slice (some ⟨b,0,none⟩) 1 1) (by kernel_rfl) fun tb w hp hx=>?_
  conv=>whnf
  refine And.intro hx ?_
  conv=>whnf
  intro w hx
  try (have hp:=hp.call hx)
  conv=>whnf
  refine hp.kapp sl88 1 rfl (Blk.src TTok (hp.get (i:=0) rfl) rfl rfl (one_bytes _)) (by omega) (by unfold maxLen; omega) fun v' w hp=>?_
  simp only [List.set_cons_zero,List.set_cons_succ] at hp
  conv=>whnf
  refine hKq _ _ _ (.refl _) ?_
  clear hKq Kq
  conv=>whnf
  refine Or.inl (And.intro (by omega) ?_)
  conv=>whnf
  refine ⟨mm - 1,_,by omega,⟨j+1,v',by omega,rfl,?_⟩,sub_cons rfl (sub_cons rfl (sub_cons rfl (sub_cons rfl sub_nil)))⟩
  rw [htk,bytesV_app]; exact hp.tail
 ·have hlt:=of_decide_eq_false hlt
  conv=>whnf
  clear hKq Kq
  refine hKq _ _ _ (.refl _) ?_
  clear hKq Kq
  conv=>whnf
  refine VSeq.mk fun Kq hKq=>?_
  conv=>whnf
  obtain rfl:j=s.size:=by omega
  rw [List.take_of_length_le (by omega)] at hp
  refine ⟨_,_,row_str (hp.get (i:=0) rfl) TTok rfl rfl rfl,?_⟩
  conv=>whnf
  refine hKq _ _ _ (.refl _) ?_
  clear hKq Kq
  conv=>whnf
  exact ⟨rfl,hp.ext⟩
set_option maxHeartbeats 6400000
theorem size8_c {W:World} {v:Value} {al:List At2} (hv:SA W v al) (hl:al.length≤1000) (hz:∀ a∈al,a.2.size≤10000) :
  Calls Tryz.prog 63 #[v] W fun e w'=>e = .returned (.int .i64 (sizeN al))∧Ext W w':=by
 obtain ⟨p,c,rfl⟩:=hv.shape
 refine v_reads (args:=[.slice p al.length c]) TTok FFok Tryz.func63 rfl rfl ?_
 conv=>whnf
 refine VSeq.mk fun Kq hKq=>?_
 conv=>whnf
 refine hKq _ _ _ (.refl _) ?_
 clear hKq Kq
 conv=>whnf
 refine VSeq.mk fun Kq hKq=>?_
 conv=>whnf
 refine hKq _ _ _ (.refl _) ?_
 clear hKq Kq
 conv=>whnf
 refine VSeq.mk fun Kq hKq=>?_
 conv=>whnf
 refine VSeq.mk fun Kq hKq=>?_
 conv=>whnf
 refine hKq _ _ _ (.refl _) ?_
 clear hKq Kq
 conv=>whnf
 refine ⟨fun mm e w'=>∃ (i:Nat),mm+i=al.length∧e=[(0,.v (.slice p al.length c)),(3,.v (.int .i64 (sizeN (al.take i)))),(4,.v (.int .i64 i))]∧Ext W w',
  ⟨al.length,_,⟨0,by omega,rfl,Ext.refl _⟩,sub_cons rfl (sub_cons rfl (sub_cons rfl sub_nil))⟩,?_⟩
 rintro mm _ w ⟨i,hmm,rfl,hxw⟩
 have hsl:=sizeN_le (al.take i) fun a ha=>hz a (List.mem_of_mem_take ha)
 have htl:(al.take i).length≤1000:=by rw [List.length_take]; omega
 conv=>whnf
 refine VSeq.mk fun Kq hKq=>?_
 conv=>whnf
 refine VSeq.mk fun Kq hKq=>?_
 conv=>whnf
 refine hKq _ _ _ (.refl _) ?_
 clear hKq Kq
 conv=>whnf
 refine ⟨fun hlt=>?_,fun hlt=>?_⟩
 ·have hlt:=of_decide_eq_true hlt
  conv=>whnf
  refine hKq _ _ _ (.refl _) ?_
  clear hKq Kq
  conv=>whnf
  refine VSeq.mk fun Kq hKq=>?_
  conv=>whnf
  refine Or.inl (And.intro (by omega) ?_)
  conv=>whnf
  have hp:=HpM.nil0 [] w
  obtain ⟨a,ha⟩:∃ a,al[i]? = some a:=⟨al[i]'(by omega),List.getElem?_eq_getElem (by omega)⟩
  have haz:=hz a (List.mem_of_getElem? ha)
  have hst:=sizeN_take ha
  obtain ⟨g,off,rfl,hld⟩:=(hv.ext hxw).at1 ha
  unfold atN at hst
  have hup:=up_p a.2.size (by omega)
  rw [up_eq] at hup
  conv=>whnf
  refine ⟨i,⟨by first | rfl | omega,by show i < al.length; omega⟩,?_⟩
  conv=>whnf
  refine ⟨_,_,hld,?_⟩
  conv=>whnf
  refine PureF.use (hup) fun w hx=>?_
  try (have hp:=hp.call hx)
  conv=>whnf
  refine Or.inl (And.intro (by omega) ?_)
  conv=>whnf
  refine hKq _ _ _ (.refl _) ?_
  clear hKq Kq
  conv=>whnf
  refine Or.inl (And.intro (by omega) ?_)
  conv=>whnf
  exact ⟨mm - 1,_,by omega,⟨i+1,by omega,rfl,hxw.trans hp.ext⟩,sub_cons rfl (sub_cons (by show some _=some _; congr 3; rw [hst]; omega) (sub_cons rfl sub_nil))⟩
 ·have hlt:=of_decide_eq_false hlt
  conv=>whnf
  clear hKq Kq
  refine hKq _ _ _ (.refl _) ?_
  clear hKq Kq
  conv=>whnf
  refine VSeq.mk fun Kq hKq=>?_
  conv=>whnf
  refine hKq _ _ _ (.refl _) ?_
  clear hKq Kq
  conv=>whnf
  obtain rfl:i=al.length:=by omega
  rw [List.take_of_length_le (Nat.le_refl _)]
  conv=>whnf
  exact ⟨rfl,hxw⟩
theorem right8_c {W:World} {v:Value} {al:List At2} (c m:Int) (id:ByteArray) (hv:SA W v al) :
  Calls Tryz.prog 14 #[.agg #[.int .i64 c,.int .i64 m,.string id,v]] W fun e w'=>e = .returned (.bool (stunB c m id al))∧Ext W w':=by
 obtain ⟨p,cp,rfl⟩:=hv.shape
 by_cases hg:0≤c∧c≤3∧0≤m∧m≤4095∧id.size=12∧al.length≤30
 ·obtain ⟨g1,g2,g3,g4,g5,g6⟩:=hg
  refine v_reads (args:=[.agg #[.int .i64 c,.int .i64 m,.string id,.slice p al.length cp]]) TTok FFok Tryz.func14 rfl rfl ?_
  conv=>whnf
  refine VSeq.mk fun Kq hKq=>?_
  conv=>whnf
  have hp:=Hp.nil W
  (refine hp.kboxA fun q w hp hx=>?_; conv=>whnf)
  (refine hKq _ _ _ (.refl _) ?_; clear hKq Kq; conv=>whnf)
  (refine VSeq.mk fun Kq hKq=>?_; conv=>whnf)
  (refine VSeq.mk fun Kq hKq=>?_; conv=>whnf)
  (refine VSeq.mk fun Kq hKq=>?_; conv=>whnf)
  (refine ⟨_,_,Blk.ld (hp.get (i:=0) rfl) TTok rfl rfl,?_⟩; conv=>whnf)
  (refine hKq _ _ _ (.refl _) ?_; clear hKq Kq; conv=>whnf)
  (refine VSeq.mk fun Kq hKq=>?_; conv=>whnf)
  (refine And.intro (fun h=>absurd (of_decide_eq_true h) (by first | (intro h2; exact absurd rfl h2) | omega | decide)) (fun _=>?_); conv=>whnf)
  (refine ⟨_,_,Blk.ld (hp.get (i:=0) rfl) TTok rfl rfl,?_⟩; conv=>whnf)
  (refine hKq _ _ _ (.refl _) ?_; clear hKq Kq; conv=>whnf)
  (refine VSeq.mk fun Kq hKq=>?_; conv=>whnf)
  (refine And.intro (fun h=>absurd (of_decide_eq_true h) (by first | (intro h2; exact absurd rfl h2) | omega | decide)) (fun _=>?_); conv=>whnf)
  (refine ⟨_,_,Blk.ld (hp.get (i:=0) rfl) TTok rfl rfl,?_⟩; conv=>whnf)
  (refine hKq _ _ _ (.refl _) ?_; clear hKq Kq; conv=>whnf)
  (refine VSeq.mk fun Kq hKq=>?_; conv=>whnf)
  (refine And.intro (fun h=>absurd (of_decide_eq_true h) (by first | (intro h2; exact absurd rfl h2) | omega | decide)) (fun _=>?_); conv=>whnf)
  (refine ⟨_,_,Blk.ld (hp.get (i:=0) rfl) TTok rfl rfl,?_⟩; conv=>whnf)
  (refine hKq _ _ _ (.refl _) ?_; clear hKq Kq; conv=>whnf)
  (refine VSeq.mk fun Kq hKq=>?_; conv=>whnf)
  (refine And.intro (fun h=>absurd (of_decide_eq_true h) (by first | (intro h2; exact absurd rfl h2) | omega | decide)) (fun _=>?_); conv=>whnf)
  (refine ⟨_,_,Blk.ld (hp.get (i:=0) rfl) TTok rfl rfl,?_⟩; conv=>whnf)
  (refine hKq _ _ _ (.refl _) ?_; clear hKq Kq; conv=>whnf)
  (refine And.intro (fun h=>absurd (of_decide_eq_true h) (by first | (intro h2; exact absurd rfl h2) | omega | decide)) (fun _=>?_); conv=>whnf)
  (refine ⟨_,_,Blk.ld (hp.get (i:=0) rfl) TTok rfl rfl,?_⟩; conv=>whnf)
  (refine hKq _ _ _ (.refl _) ?_; clear hKq Kq; conv=>whnf)
  (refine And.intro (fun h=>absurd (of_decide_eq_true h) (by first | (intro h2; exact absurd rfl h2) | omega | decide)) (fun _=>?_); conv=>whnf)
  (refine hKq _ _ _ (.refl _) ?_; clear hKq Kq; conv=>whnf)
  (refine VSeq.mk fun Kq hKq=>?_; conv=>whnf)
  (refine VSeq.mk fun Kq hKq=>?_; conv=>whnf)
  (refine hKq _ _ _ (.refl _) ?_; clear hKq Kq; conv=>whnf)
  refine ⟨fun mm e w'=>∃ (i:Nat),mm+i=al.length∧e=[(1,.v (.pointer (some ⟨q,0,none⟩))),(3,.v (.int .i64 i))]∧(∀ a∈al.take i,attrB a=true)∧HpM [] W w' [blk q [.int .i64 c,.int .i64 m,.string id,.slice p al.length cp] 24],
   ⟨al.length,_,⟨0,by omega,rfl,by simp,hp⟩,sub_cons rfl (sub_cons rfl sub_nil)⟩,?_⟩
  clear hp hx
  repeat clear hp
  rintro mm _ w ⟨i,hmm,rfl,hall,hp⟩
  (refine VSeq.mk fun Kq hKq=>?_; conv=>whnf)
  (refine VSeq.mk fun Kq hKq=>?_; conv=>whnf)
  (refine ⟨_,_,Blk.ld (hp.get (i:=0) rfl) TTok rfl rfl,?_⟩; conv=>whnf)
  (refine hKq _ _ _ (.refl _) ?_; clear hKq Kq; conv=>whnf)
  refine ⟨fun hlt=>?_,fun hlt=>?_⟩
  ·have hlt:=of_decide_eq_true hlt
   conv=>whnf
   refine hKq _ _ _ (.refl _) ?_
   clear hKq Kq
   conv=>whnf
   refine VSeq.mk fun Kq hKq=>?_
   conv=>whnf
   refine VSeq.mk fun Kq hKq=>?_
   conv=>whnf
   refine VSeq.mk fun Kq hKq=>?_
   conv=>whnf
   obtain ⟨a,ha⟩:∃ a,al[i]? = some a:=⟨al[i]'(by omega),List.getElem?_eq_getElem (by omega)⟩
   obtain ⟨g,off,rfl,-⟩:=(hv.ext hp.ext).at ha
   have hl0:=SA.ld0 (hv.ext hp.ext) ha
   have hl1:=SA.ld1 (hv.ext hp.ext) ha
   by_cases hok:0≤a.1∧a.1≤65535∧a.2.size≤763
   ·obtain ⟨k1,k2,k3⟩:=hok
    have haB:attrB a=true:=by unfold attrB; simp only [Bool.and_eq_true,decide_eq_true_eq]; exact ⟨k1,k2,k3⟩
    (refine ⟨_,_,Blk.ld (hp.get (i:=0) rfl) TTok rfl rfl,?_⟩; conv=>whnf)
    (refine ⟨_,⟨rfl,by omega⟩,?_⟩; conv=>whnf)
    (refine ⟨_,_,hl0,?_⟩; conv=>whnf)
    (refine hKq _ _ _ (.refl _) ?_; clear hKq Kq; conv=>whnf)
    (refine VSeq.mk fun Kq hKq=>?_; conv=>whnf)
    (refine And.intro (fun h=>absurd (of_decide_eq_true h) (by first | (intro h2; exact absurd rfl h2) | omega | decide)) (fun _=>?_); conv=>whnf)
    (refine ⟨_,_,Blk.ld (hp.get (i:=0) rfl) TTok rfl rfl,?_⟩; conv=>whnf)
    (refine ⟨_,⟨rfl,by omega⟩,?_⟩; conv=>whnf)
    (refine ⟨_,_,hl0,?_⟩; conv=>whnf)
    (refine hKq _ _ _ (.refl _) ?_; clear hKq Kq; conv=>whnf)
    (refine And.intro (fun h=>absurd (of_decide_eq_true h) (by first | (intro h2; exact absurd rfl h2) | omega | decide)) (fun _=>?_); conv=>whnf)
    (refine ⟨_,_,Blk.ld (hp.get (i:=0) rfl) TTok rfl rfl,?_⟩; conv=>whnf)
    (refine ⟨_,⟨rfl,by omega⟩,?_⟩; conv=>whnf)
    (refine ⟨_,_,hl1,?_⟩; conv=>whnf)
    (refine hKq _ _ _ (.refl _) ?_; clear hKq Kq; conv=>whnf)
    (refine And.intro (fun h=>absurd (of_decide_eq_true h) (by first | (intro h2; exact absurd rfl h2) | omega | decide)) (fun _=>?_); conv=>whnf)
    (refine hKq _ _ _ (.refl _) ?_; clear hKq Kq; conv=>whnf)
    (refine Or.inl (And.intro (by first | omega | decide) ?_); conv=>whnf)
    refine ⟨mm - 1,_,by omega,⟨i+1,by omega,rfl,fun b hb=>?_,hp⟩,sub_cons rfl (sub_cons rfl sub_nil)⟩
    rw [List.take_add_one,ha] at hb
    rcases List.mem_append.1 hb with hb | hb
    ·exact hall b hb
    ·have:b=a:=by simpa using hb
     rw [this]; exact haB
   ·have haB:=attrB_f hok
    have hb:stunB c m id al=false:=stunB_f fun h=>by
     have:=(stunB_t h).2.2.2.2.2.2.1 a (List.mem_of_getElem? ha)
     rw [haB] at this; cases this
    (refine ⟨_,_,Blk.ld (hp.get (i:=0) rfl) TTok rfl rfl,?_⟩; conv=>whnf)
    (refine ⟨_,⟨rfl,by omega⟩,?_⟩; conv=>whnf)
    (refine ⟨_,_,hl0,?_⟩; conv=>whnf)
    (refine hKq _ _ _ (.refl _) ?_; clear hKq Kq; conv=>whnf)
    (refine VSeq.mk fun Kq hKq=>?_; conv=>whnf)
    (refine ⟨fun hd=>?_,fun hd=>?_⟩ <;> (try simp only [Bool.not_eq_true',Bool.not_eq_false',decide_eq_true_eq,decide_eq_false_iff_not,ne_eq,Classical.not_not] at hd) <;> (conv=>whnf))
    (refine hKq _ _ _ (.refl _) ?_; clear hKq Kq; conv=>whnf)
    (refine hKq _ _ _ (.refl _) ?_; clear hKq Kq; conv=>whnf)
    (refine VSeq.mk fun Kq hKq=>?_; conv=>whnf)
    (refine hKq _ _ _ (.refl _) ?_; clear hKq Kq; conv=>whnf)
    (refine ⟨congrArg Value.bool ?_,hp.ext⟩; rw [Bool.eq_iff_iff]; first | (simp only [Bool.or_eq_true,Bool.and_eq_true,decide_eq_true_eq,Bool.not_eq_true',decide_eq_false_iff_not,eq_self,true_and,and_true,true_iff,iff_true,false_iff,iff_false,reduceCtorEq,ne_eq, *] <;> omega) | (simp_all; fail_if_success skip) | (simp_all <;> omega))
    (refine ⟨_,_,Blk.ld (hp.get (i:=0) rfl) TTok rfl rfl,?_⟩; conv=>whnf)
    (refine ⟨_,⟨rfl,by omega⟩,?_⟩; conv=>whnf)
    (refine ⟨_,_,hl0,?_⟩; conv=>whnf)
    (refine hKq _ _ _ (.refl _) ?_; clear hKq Kq; conv=>whnf)
    (refine ⟨fun hd=>?_,fun hd=>?_⟩ <;> (try simp only [Bool.not_eq_true',Bool.not_eq_false',decide_eq_true_eq,decide_eq_false_iff_not,ne_eq,Classical.not_not] at hd) <;> (conv=>whnf))
    (refine hKq _ _ _ (.refl _) ?_; clear hKq Kq; conv=>whnf)
    (refine VSeq.mk fun Kq hKq=>?_; conv=>whnf)
    (refine hKq _ _ _ (.refl _) ?_; clear hKq Kq; conv=>whnf)
    (refine ⟨congrArg Value.bool ?_,hp.ext⟩; rw [Bool.eq_iff_iff]; first | (simp only [Bool.or_eq_true,Bool.and_eq_true,decide_eq_true_eq,Bool.not_eq_true',decide_eq_false_iff_not,eq_self,true_and,and_true,true_iff,iff_true,false_iff,iff_false,reduceCtorEq,ne_eq, *] <;> omega) | (simp_all; fail_if_success skip) | (simp_all <;> omega))
    (refine ⟨_,_,Blk.ld (hp.get (i:=0) rfl) TTok rfl rfl,?_⟩; conv=>whnf)
    (refine ⟨_,⟨rfl,by omega⟩,?_⟩; conv=>whnf)
    (refine ⟨_,_,hl1,?_⟩; conv=>whnf)
    (refine hKq _ _ _ (.refl _) ?_; clear hKq Kq; conv=>whnf)
    (refine And.intro (fun _=>?_) (fun h=>absurd (by first | rfl | assumption | omega | decide) (of_decide_eq_false h)); conv=>whnf)
    (refine VSeq.mk fun Kq hKq=>?_; conv=>whnf)
    (refine hKq _ _ _ (.refl _) ?_; clear hKq Kq; conv=>whnf)
    (refine ⟨congrArg Value.bool ?_,hp.ext⟩; rw [Bool.eq_iff_iff]; first | (simp only [Bool.or_eq_true,Bool.and_eq_true,decide_eq_true_eq,Bool.not_eq_true',decide_eq_false_iff_not,eq_self,true_and,and_true,true_iff,iff_true,false_iff,iff_false,reduceCtorEq,ne_eq, *] <;> omega) | (simp_all; fail_if_success skip) | (simp_all <;> omega))
  ·have hlt:=of_decide_eq_false hlt
   conv=>whnf
   clear hKq Kq
   refine hKq _ _ _ (.refl _) ?_
   clear hKq Kq
   conv=>whnf
   refine VSeq.mk fun Kq hKq=>?_
   conv=>whnf
   obtain rfl:i=al.length:=by omega
   rw [List.take_of_length_le (Nat.le_refl _)] at hall
   have hz:=size8_c (W:=w) (hv.ext hp.ext) (by omega) (fun a ha=>by have:=attrB_t (hall a ha); omega)
   have hsz:=sizeN_le al (fun a ha=>by have:=attrB_t (hall a ha); omega)
   have hF:stunB c m id al=decide (20+(sizeN al:Int)≤1200):=by
    by_cases h8:20+sizeN al≤1200
    ·rw [stunB_of g1 g2 g3 g4 g5 g6 hall h8]; exact (decide_eq_true (by omega)).symm
    ·rw [stunB_f fun h=>h8 (stunB_t h).2.2.2.2.2.2.2]; exact (decide_eq_false (by omega)).symm
   rw [hF]
   (refine ⟨_,_,Blk.ld (hp.get (i:=0) rfl) TTok rfl rfl,?_⟩; conv=>whnf)
   (refine V.CallW.out ?_; (conv=>arg 3; dsimp only [EV.val,List.toList_toArray,List.nil_append,List.append_nil,List.cons_append]); (with_reducible refine V.CallsUseW (hz) fun w hx=>?_); try (have hp:=hp.call hx); conv=>whnf)
   (refine Or.inl (And.intro (by first | omega | decide) ?_); conv=>whnf)
   (refine hKq _ _ _ (.refl _) ?_; clear hKq Kq; conv=>whnf)
   (refine ⟨congrArg Value.bool ?_,hp.ext⟩; rw [Bool.eq_iff_iff]; first | (simp only [Bool.or_eq_true,Bool.and_eq_true,decide_eq_true_eq,Bool.not_eq_true',decide_eq_false_iff_not,eq_self,true_and,and_true,true_iff,iff_true,false_iff,iff_false,reduceCtorEq,ne_eq, *] <;> omega) | (simp_all; fail_if_success skip) | (simp_all <;> omega))
 ·have hb:stunB c m id al=false:=stunB_f fun h=>hg (by have:=stunB_t h; exact ⟨this.1,this.2.1,this.2.2.1,this.2.2.2.1,this.2.2.2.2.1,this.2.2.2.2.2.1⟩)
  rw [hb]
  refine v_reads (args:=[.agg #[.int .i64 c,.int .i64 m,.string id,.slice p al.length cp]]) TTok FFok Tryz.func14 rfl rfl ?_
  conv=>whnf
  refine VSeq.mk fun Kq hKq=>?_
  conv=>whnf
  have hp:=Hp.nil W
  (refine hp.kboxA fun q w hp hx=>?_; conv=>whnf)
  (refine hKq _ _ _ (.refl _) ?_; clear hKq Kq; conv=>whnf)
  (refine VSeq.mk fun Kq hKq=>?_; conv=>whnf)
  (refine VSeq.mk fun Kq hKq=>?_; conv=>whnf)
  (refine VSeq.mk fun Kq hKq=>?_; conv=>whnf)
  (refine ⟨_,_,Blk.ld (hp.get (i:=0) rfl) TTok rfl rfl,?_⟩; conv=>whnf)
  (refine hKq _ _ _ (.refl _) ?_; clear hKq Kq; conv=>whnf)
  (refine VSeq.mk fun Kq hKq=>?_; conv=>whnf)
  (refine ⟨fun hd=>?_,fun hd=>?_⟩ <;> (try simp only [Bool.not_eq_true',Bool.not_eq_false',decide_eq_true_eq,decide_eq_false_iff_not,ne_eq,Classical.not_not] at hd) <;> (conv=>whnf))
  (refine hKq _ _ _ (.refl _) ?_; clear hKq Kq; conv=>whnf)
  (refine VSeq.mk fun Kq hKq=>?_; conv=>whnf)
  (refine hKq _ _ _ (.refl _) ?_; clear hKq Kq; conv=>whnf)
  (refine VSeq.mk fun Kq hKq=>?_; conv=>whnf)
  (refine hKq _ _ _ (.refl _) ?_; clear hKq Kq; conv=>whnf)
  (refine VSeq.mk fun Kq hKq=>?_; conv=>whnf)
  (refine hKq _ _ _ (.refl _) ?_; clear hKq Kq; conv=>whnf)
  (refine hKq _ _ _ (.refl _) ?_; clear hKq Kq; conv=>whnf)
  (refine VSeq.mk fun Kq hKq=>?_; conv=>whnf)
  (refine hKq _ _ _ (.refl _) ?_; clear hKq Kq; conv=>whnf)
  (exact ⟨rfl,hp.ext⟩)
  (refine ⟨_,_,Blk.ld (hp.get (i:=0) rfl) TTok rfl rfl,?_⟩; conv=>whnf)
  (refine hKq _ _ _ (.refl _) ?_; clear hKq Kq; conv=>whnf)
  (refine VSeq.mk fun Kq hKq=>?_; conv=>whnf)
  (refine ⟨fun hd=>?_,fun hd=>?_⟩ <;> (try simp only [Bool.not_eq_true',Bool.not_eq_false',decide_eq_true_eq,decide_eq_false_iff_not,ne_eq,Classical.not_not] at hd) <;> (conv=>whnf))
  (refine hKq _ _ _ (.refl _) ?_; clear hKq Kq; conv=>whnf)
  (refine VSeq.mk fun Kq hKq=>?_; conv=>whnf)
  (refine hKq _ _ _ (.refl _) ?_; clear hKq Kq; conv=>whnf)
  (refine VSeq.mk fun Kq hKq=>?_; conv=>whnf)
  (refine hKq _ _ _ (.refl _) ?_; clear hKq Kq; conv=>whnf)
  (refine hKq _ _ _ (.refl _) ?_; clear hKq Kq; conv=>whnf)
  (refine VSeq.mk fun Kq hKq=>?_; conv=>whnf)
  (refine hKq _ _ _ (.refl _) ?_; clear hKq Kq; conv=>whnf)
  (exact ⟨rfl,hp.ext⟩)
  (refine ⟨_,_,Blk.ld (hp.get (i:=0) rfl) TTok rfl rfl,?_⟩; conv=>whnf)
  (refine hKq _ _ _ (.refl _) ?_; clear hKq Kq; conv=>whnf)
  (refine VSeq.mk fun Kq hKq=>?_; conv=>whnf)
  (refine ⟨fun hd=>?_,fun hd=>?_⟩ <;> (try simp only [Bool.not_eq_true',Bool.not_eq_false',decide_eq_true_eq,decide_eq_false_iff_not,ne_eq,Classical.not_not] at hd) <;> (conv=>whnf))
  (refine hKq _ _ _ (.refl _) ?_; clear hKq Kq; conv=>whnf)
  (refine VSeq.mk fun Kq hKq=>?_; conv=>whnf)
  (refine hKq _ _ _ (.refl _) ?_; clear hKq Kq; conv=>whnf)
  (refine hKq _ _ _ (.refl _) ?_; clear hKq Kq; conv=>whnf)
  (refine VSeq.mk fun Kq hKq=>?_; conv=>whnf)
  (refine hKq _ _ _ (.refl _) ?_; clear hKq Kq; conv=>whnf)
  (exact ⟨rfl,hp.ext⟩)
  (refine ⟨_,_,Blk.ld (hp.get (i:=0) rfl) TTok rfl rfl,?_⟩; conv=>whnf)
  (refine hKq _ _ _ (.refl _) ?_; clear hKq Kq; conv=>whnf)
  (refine VSeq.mk fun Kq hKq=>?_; conv=>whnf)
  (refine ⟨fun hd=>?_,fun hd=>?_⟩ <;> (try simp only [Bool.not_eq_true',Bool.not_eq_false',decide_eq_true_eq,decide_eq_false_iff_not,ne_eq,Classical.not_not] at hd) <;> (conv=>whnf))
  (refine hKq _ _ _ (.refl _) ?_; clear hKq Kq; conv=>whnf)
  (refine hKq _ _ _ (.refl _) ?_; clear hKq Kq; conv=>whnf)
  (refine VSeq.mk fun Kq hKq=>?_; conv=>whnf)
  (refine hKq _ _ _ (.refl _) ?_; clear hKq Kq; conv=>whnf)
  (exact ⟨rfl,hp.ext⟩)
  (refine ⟨_,_,Blk.ld (hp.get (i:=0) rfl) TTok rfl rfl,?_⟩; conv=>whnf)
  (refine hKq _ _ _ (.refl _) ?_; clear hKq Kq; conv=>whnf)
  (refine ⟨fun hd=>?_,fun hd=>?_⟩ <;> (try simp only [Bool.not_eq_true',Bool.not_eq_false',decide_eq_true_eq,decide_eq_false_iff_not,ne_eq,Classical.not_not] at hd) <;> (conv=>whnf))
  (refine hKq _ _ _ (.refl _) ?_; clear hKq Kq; conv=>whnf)
  (refine VSeq.mk fun Kq hKq=>?_; conv=>whnf)
  (refine hKq _ _ _ (.refl _) ?_; clear hKq Kq; conv=>whnf)
  (exact ⟨rfl,hp.ext⟩)
  (refine ⟨_,_,Blk.ld (hp.get (i:=0) rfl) TTok rfl rfl,?_⟩; conv=>whnf)
  (refine hKq _ _ _ (.refl _) ?_; clear hKq Kq; conv=>whnf)
  (refine And.intro (fun _=>?_) (fun h=>absurd (by first | rfl | assumption | omega | decide) (of_decide_eq_false h)); conv=>whnf)
  (refine VSeq.mk fun Kq hKq=>?_; conv=>whnf)
  (refine hKq _ _ _ (.refl _) ?_; clear hKq Kq; conv=>whnf)
  (exact ⟨rfl,hp.ext⟩)
  all_goals exact absurd ⟨by omega,by omega,by omega,by omega,by omega,by omega⟩ hg
theorem first8_c {W:World} {v:Value} {al:List At2} (c m:Int) (id:ByteArray) (k:Int) (hv:SA W v al) :
  Calls Tryz.prog 26 #[.agg #[.int .i64 c,.int .i64 m,.string id,v],.int .i64 k] W fun e w'=>e = .returned (.int .i64 (idxI k al))∧Ext W w':=by
 have hml:=hv.len
 obtain ⟨p,cp,rfl⟩:=hv.shape
 refine v_reads (args:=[.agg #[.int .i64 c,.int .i64 m,.string id,.slice p al.length cp],.int .i64 k]) TTok FFok Tryz.func26 rfl rfl ?_
 conv=>whnf
 refine VSeq.mk fun Kq hKq=>?_
 conv=>whnf
 have hp:=Hp.nil W
 refine hp.kboxA fun q w hp hx=>?_
 conv=>whnf
 refine hKq _ _ _ (.refl _) ?_
 clear hKq Kq
 conv=>whnf
 refine VSeq.mk fun Kq hKq=>?_
 conv=>whnf
 refine VSeq.mk fun Kq hKq=>?_
 conv=>whnf
 refine hKq _ _ _ (.refl _) ?_
 clear hKq Kq
 conv=>whnf
 refine ⟨fun mm e w'=>∃ (i:Nat),mm+i=al.length∧e=[(1,.v (.int .i64 k)),(2,.v (.pointer (some ⟨q,0,none⟩))),(5,.v (.int .i64 i))]∧(∀ b∈al.take i,kindB k b=false)∧HpM [] W w' [blk q [.int .i64 c,.int .i64 m,.string id,.slice p al.length cp] 24],
  ⟨al.length,_,⟨0,by omega,rfl,by simp,hp⟩,sub_cons rfl (sub_cons rfl (sub_cons rfl sub_nil))⟩,?_⟩
 clear hp hx
 repeat clear hp
 rintro mm _ w ⟨i,hmm,rfl,hn,hp⟩
 (refine VSeq.mk fun Kq hKq=>?_; conv=>whnf)
 (refine VSeq.mk fun Kq hKq=>?_; conv=>whnf)
 (refine ⟨_,_,Blk.ld (hp.get (i:=0) rfl) TTok rfl rfl,?_⟩; conv=>whnf)
 (refine hKq _ _ _ (.refl _) ?_; clear hKq Kq; conv=>whnf)
 refine ⟨fun hlt=>?_,fun hlt=>?_⟩
 ·have hlt:=of_decide_eq_true hlt
  conv=>whnf
  refine hKq _ _ _ (.refl _) ?_
  clear hKq Kq
  conv=>whnf
  refine VSeq.mk fun Kq hKq=>?_
  conv=>whnf
  refine VSeq.mk fun Kq hKq=>?_
  conv=>whnf
  obtain ⟨a,ha⟩:∃ a,al[i]? = some a:=⟨al[i]'(by omega),List.getElem?_eq_getElem (by omega)⟩
  obtain ⟨g,off,rfl,-⟩:=(hv.ext hp.ext).at ha
  have hl0:=SA.ld0 (hv.ext hp.ext) ha
  (refine ⟨_,_,Blk.ld (hp.get (i:=0) rfl) TTok rfl rfl,?_⟩; conv=>whnf)
  (refine ⟨_,⟨rfl,by omega⟩,?_⟩; conv=>whnf)
  (refine ⟨_,_,hl0,?_⟩; conv=>whnf)
  (refine hKq _ _ _ (.refl _) ?_; clear hKq Kq; conv=>whnf)
  refine ⟨fun hq=>?_,fun hq=>?_⟩
  ·have hq:=of_decide_eq_true hq
   conv=>whnf
   refine VSeq.mk fun Kq hKq=>?_
   conv=>whnf
   refine hKq _ _ _ (.refl _) ?_
   clear hKq Kq
   conv=>whnf
   have hb:kindB k a=true:=decide_eq_true hq
   have hI:=idx_hit ha hb hn
   skip
   exact ⟨by rw [hI]; rfl,hp.ext⟩
  ·have hq:=of_decide_eq_false hq
   conv=>whnf
   refine hKq _ _ _ (.refl _) ?_
   clear hKq Kq
   conv=>whnf
   refine Or.inl (And.intro (by omega) ?_)
   conv=>whnf
   have hb:kindB k a=false:=decide_eq_false hq
   skip
   refine ⟨mm - 1,_,by omega,⟨i+1,by omega,rfl,fun b hbm=>?_,hp⟩,sub_cons rfl (sub_cons rfl (sub_cons rfl sub_nil))⟩
   rw [List.take_add_one,ha] at hbm
   rcases List.mem_append.1 hbm with h | h
   ·exact hn b h
   ·have:b=a:=by simpa using h
    rw [this]; exact hb
 ·have hlt:=of_decide_eq_false hlt
  conv=>whnf
  clear hKq Kq
  refine hKq _ _ _ (.refl _) ?_
  clear hKq Kq
  conv=>whnf
  refine VSeq.mk fun Kq hKq=>?_
  conv=>whnf
  refine hKq _ _ _ (.refl _) ?_
  clear hKq Kq
  conv=>whnf
  obtain rfl:i=al.length:=by omega
  rw [List.take_of_length_le (Nat.le_refl _)] at hn
  have hI:=idx_miss hn
  skip
  exact ⟨by rw [hI]; rfl,hp.ext⟩
namespace V
/-- Block b is a map of integers that holds just these entries, the oldest first. -/
def MPs (w:World) (b:Nat) (kvs:List (Int × Value)):Prop:=∃ (es:Array MapEntry) (clock:Nat),w.heap[b]? = some (.map es clock)∧es.toList.map (fun e=>(e.key,e.val))=kvs.map fun p=>(Value.int .i64 p.1,p.2)
def mp (b:Nat) (kvs:List (Int × Value)):It:=⟨some b,fun w=>MPs w b kvs⟩
theorem mp_ok (b:Nat) (kvs:List (Int × Value)):(mp b kvs).Ok:=fun w w' _ h hh=>by
 obtain ⟨es,c,h1,h2⟩:=hh
 exact ⟨es,c,(h b rfl).trans h1,h2⟩
theorem find_mp (k:Int):∀ (l:List MapEntry) (kvs:List (Int × Value)) (i:Nat),l.map (fun e=>(e.key,e.val))=kvs.map (fun p=>(Value.int .i64 p.1,p.2)) →
  (∃ r,Instr.findNow (.int .i64) (.int .i64 k) l i=some r∧(r.map (·.2))=(kvs.find? fun p=>decide (p.1=k)).map (·.2))
 | [],[],i,_=>⟨none,rfl,rfl⟩
 | e :: l,[],i,h=>by simp at h
 | [],p :: kvs,i,h=>by simp at h
 | e :: l,p :: kvs,i,h=>by
  simp only [List.map_cons,List.cons.injEq,Prod.mk.injEq] at h
  obtain ⟨⟨hk,hv⟩,ht⟩:=h
  obtain ⟨r,hr,hr2⟩:=find_mp k l kvs (i+1) ht
  by_cases e1:p.1=k
  ·refine ⟨some (i,e.val),?_,?_⟩
   ·subst e1
    simp [Instr.findNow,Instr.sameNow,hk]
   ·simp [List.find?_cons,e1,hv]
  ·refine ⟨r,?_,?_⟩
   ·have e2:(k == p.1)=false:=by simp; exact fun h=>e1 h.symm
    simp [Instr.findNow,Instr.sameNow,hk,e2,hr]
   ·rw [hr2,List.find?_cons,decide_eq_false e1]
theorem find_mp' {k:Int} {l:List MapEntry} {kvs:List (Int × Value)} (h:l.map (fun e=>(e.key,e.val))=kvs.map (fun p=>(Value.int .i64 p.1,p.2))) (hn:(kvs.find? fun p=>decide (p.1=k))=none):Instr.findNow (.int .i64) (.int .i64 k) l 0=some none:=by
 obtain ⟨r,hr,h2⟩:=find_mp k l kvs 0 h
 rw [hn] at h2
 cases r with
 | none=>exact hr
 | some a=>simp at h2
section
variable {P:Program} {T:Tab} {M:List Nat} {w0 w:World} {H:List It} {K:Value→World→Prop}
theorem HpM.kmap (h:HpM M w0 w H) {t:Nat} (hk:∀ b w',HpM M w0 w' (mp b [] :: H)→Ext w w'→K (.map (some b)) w'):∃ u w',(Instr.makeMap t none).run P w = .ok u w'∧K u w':=by
 have hr:(Instr.makeMap t none).run P w = .ok (.map (some w.heap.size)) (w.alloc (.map #[] 0)):=by
  simp [Instr.makeMap,Result.andThen]
 have hx:Ext w (w.alloc (.map #[] 0)):=(Ext.refl w).alloc _
 refine ⟨_,_,hr,hk _ _ (h.push hx (mp_ok _ _) ⟨#[],0,(MapKept.heap_alloc w _).1,rfl⟩ ?_) hx⟩
 intro b hb
 simp only [mp,Option.some.injEq] at hb
 subst hb
 exact ⟨Nat.le_refl _,by simp⟩
/-- a new key -/
theorem HpM.kins (h:HpM M w0 w H) {t kt et:Nat} (ht:P.underlying t=some (.map kt et)) (hkt:P.underlying kt=some (.int .i64)) (i:Nat) {b:Nat} {kvs:List (Int × Value)} (hi:H[i]? = some (mp b kvs)) {k:Int} {v:Value}
  (hn:(kvs.find? fun p=>decide (p.1=k))=none) (hk:∀ w',HpM M w0 w' (H.set i (mp b (kvs++[(k,v)])))→K undef w') :
  ∃ u w',(do Instr.mapUpdate t (.map (some b)) (.int .i64 k) v; Pure.pure undef:Sem Value).run P w = .ok u w'∧K u w':=by
 obtain ⟨es,clock,hb,hes⟩:MPs w b kvs:=h.get hi
 have hf:=find_mp' hes hn
 have hr:(Instr.mapUpdate t (.map (some b)) (.int .i64 k) v).run P w = .ok () { w with heap:=w.heap.setIfInBounds b (.map (es.push { key:=.int .i64 k,val:=v,born:=clock }) (clock+1)) }:=by
  simp only [Instr.mapUpdate,Sem.run_bind,Go.Proofs.YtmlmfmdmomegpaaGreatDoor.V.run_underlying ht,Result.andThen,MapKept.run_getObj_map hb,MapKept.run_checkKey hkt (show MapKept.IsKey (.int .i64) (.int .i64 k) from rfl),MapKept.run_findKey hkt hf]
  exact MapKept.run_setObj_map _ hb
 have hset:=MapKept.heap_set hb (o':=.map (es.push { key:=.int .i64 k,val:=v,born:=clock }) (clock+1))
 have hg:w.grownBy { w with heap:=w.heap.setIfInBounds b (.map (es.push { key:=.int .i64 k,val:=v,born:=clock }) (clock+1)) } (mp b kvs).own :=
  ⟨rfl,rfl,rfl,by simp,fun j hj hne=>hset.2 j (fun e=>hne (by rw [e]; rfl))⟩
 have hr2:(do Instr.mapUpdate t (.map (some b)) (.int .i64 k) v; Pure.pure undef:Sem Value).run P w = .ok undef { w with heap:=w.heap.setIfInBounds b (.map (es.push { key:=.int .i64 k,val:=v,born:=clock }) (clock+1)) }:=by
  rw [Sem.run_bind,hr]
  simp [Result.andThen]
 exact ⟨_,_,hr2,hk _ (h.upd hi hg (mp_ok _ _) ⟨_,_,hset.1,by simp [hes]⟩ (fun b' hb'=>.inl hb'))⟩
/-- a key is looked up -/
theorem MPs.look {b:Nat} {kvs:List (Int × Value)} (h:MPs w b kvs) {t kt et:Nat} (ht:P.underlying t=some (.map kt et)) (hkt:P.underlying kt=some (.int .i64)) {z:Value} (hz:(zeroValue et).run P w = .ok z w) (k:Int) (ok:Bool) :
  (Instr.lookup t (.map (some b)) (.int .i64 k) ok).run P w = .ok (match kvs.find? fun p=>decide (p.1=k) with
   | some p=>if ok then .tuple #[p.2,.bool true] else p.2
   | none=>if ok then .tuple #[z,.bool false] else z) w:=by
 obtain ⟨es,clock,hb,hes⟩:=h
 obtain ⟨r,hr,h2⟩:=find_mp k es.toList kvs 0 hes
 simp only [Instr.lookup,Sem.run_bind,Go.Proofs.YtmlmfmdmomegpaaGreatDoor.V.run_underlying ht,Result.andThen,MapKept.run_getObj_map hb,Sem.run_pure,MapKept.run_checkKey hkt (show MapKept.IsKey (.int .i64) (.int .i64 k) from rfl),MapKept.run_findKey hkt hr]
 cases hf:kvs.find? fun p=>decide (p.1=k) with
 | none =>
  rw [hf] at h2
  cases r with
  | none=>simp [hz,Result.andThen]
  | some a=>simp at h2
 | some p =>
  rw [hf] at h2
  cases r with
  | none=>simp at h2
  | some a =>
   have:a.2=p.2:=by simpa using h2
   simp [Result.andThen,this]
end
end V
namespace V
section
variable {P:Program} {md:Region.Mode} {ops:Array Oper}
def YC (P:Program) (ops:Array Oper) (o:Oper) (v:Value) (a:Act) (C:World→Prop):Prop :=
 (Region.wanted o (yielded ops a.tmps)=true∧∀ w1,C w1→o.quietAt P a (Ext w1) w1 v)∨(Region.wanted o (yielded ops a.tmps)=false∧v=undef)
theorem YC.of_same {o:Oper} {v:Value} {a a':Act} {C:World→Prop} (hy:YC P ops o v a C) (he:execOp a'.eval o=execOp a.eval o) (hw:Region.wanted o (yielded ops a'.tmps)=Region.wanted o (yielded ops a.tmps)):YC P ops o v a' C:=by
 unfold YC Oper.quietAt at *
 rw [he,hw]
 exact hy
end
/-! ### over environments -/
section
variable (P:Program) (T:Tab) (Fs:List Nat) (n:Nat) (all:List Oper) (bars:List Nat) (C:World→Prop)
end
section
variable {P:Program} {T:Tab} {Fs:List Nat} (hT:tabOk P T=true) (hF:∀ f,memB f Fs=true→Enters P f)
include hT hF
end
end V
namespace V
theorem SLn.shape {w:World} {sz:Nat} {v:Value} {xs:List (List Value)} (h:SLn w sz v xs):∃ p c,v = .slice p xs.length c:=by
 rcases h with ⟨rfl,rfl⟩ | ⟨a,c,rfl,rfl⟩ | ⟨g,off,c,rfl,_⟩
 ·exact ⟨_,_,rfl⟩
 ·exact ⟨_,_,rfl⟩
 ·exact ⟨_,_,rfl⟩
theorem SLn.len {w:World} {sz:Nat} {v:Value} {xs:List (List Value)} (h:SLn w sz v xs):xs.length≤maxLen:=by
 rcases h with ⟨_,rfl⟩ | ⟨a,c,_,rfl⟩ | ⟨g,off,c,_,h1,h2,_⟩
 ·exact Nat.zero_le _
 ·exact Nat.zero_le _
 ·omega
theorem SLn.ext {w w':World} {sz:Nat} {v:Value} {xs:List (List Value)} (h:SLn w sz v xs) (hx:Ext w w'):SLn w' sz v xs:=by
 rcases h with h | h | ⟨g,off,c,hv,h1,h2,h3⟩
 ·exact .inl h
 ·exact .inr (.inl h)
 ·exact .inr (.inr ⟨g,off,c,hv,h1,h2,fun j x hj=>⟨(h3 j x hj).1,fun i y hy=>Ext.cell hx ((h3 j x hj).2 i y hy)⟩⟩)
theorem SLn.cells {w:World} {sz:Nat} {p:Option Addr} {n c:Nat} {xs:List (List Value)} (h:SLn w sz (.slice p n c) xs) {j:Nat} {x:List Value} (hj:xs[j]? = some x) :
  ∃ g off,p=some ⟨g,off,none⟩∧x.length=sz∧∀ i y,x[i]? = some y→w.cell? ⟨g,addM off j sz+i,none⟩=some y:=by
 rcases h with ⟨_,h⟩ | ⟨_,_,_,h⟩ | ⟨g,off,c',hv,_,_,h3⟩
 ·rw [h] at hj; simp at hj
 ·rw [h] at hj; simp at hj
 ·simp only [Value.slice.injEq] at hv
  refine ⟨g,off,hv.1,(h3 j x hj).1,fun i y hy=>?_⟩
  rw [addM_eq,Nat.add_assoc]
  exact (h3 j x hj).2 i y hy
theorem SLn.one {α:Type} {f:α→Value} {w:World} {v:Value} {l:List α} (h:SLn w 1 v (l.map fun a=>[f a])):SLv w v (l.map f):=by
 rcases h with ⟨rfl,h⟩ | ⟨a,c,rfl,h⟩ | ⟨g,off,c,rfl,hle,_,h⟩
 ·have:l=[]:=List.map_eq_nil_iff.1 h
  subst this; exact .inl ⟨rfl,_,_,rfl⟩
 ·have:l=[]:=List.map_eq_nil_iff.1 h
  subst this; exact .inl ⟨rfl,_,_,rfl⟩
 ·refine .inr ⟨g,off,c,by simp,by simpa using hle,fun j y hy=>?_⟩
  rw [List.getElem?_map,Option.map_eq_some_iff] at hy
  obtain ⟨s,hs,rfl⟩:=hy
  have:=(h j [f s] (by simp [hs])).2 0 (f s) rfl
  simpa using this
theorem Rd.all {α:Type} {w:World} {s:Sh} {Q:α→Prop} {f:α→List Value} (h1:∀ cs,Rd w s cs→∃ a,Q a∧cs=f a) :
  ∀ {xs:List (List Value)},(∀ x∈xs,Rd w s x)→∃ l:List α,xs=l.map f∧∀ a∈l,Q a
 | [],_=>⟨[],rfl,by simp⟩
 | x :: xs,h=>by
  obtain ⟨a,ha,hx⟩:=h1 x (h x List.mem_cons_self)
  obtain ⟨l,hl,hq⟩:=Rd.all h1 (xs:=xs) fun y hy=>h y (List.mem_cons_of_mem _ hy)
  refine ⟨a :: l,by rw [List.map_cons,← hx,← hl],fun b hb=>?_⟩
  rcases List.mem_cons.1 hb with rfl | hb
  ·exact ha
  ·exact hq b hb
theorem conv_zero {P:Program} {T:Tab} (hT:tabOk P T=true) {src dst e n1 n2 n3:Nat} (hs:tfind T src=some ⟨.slice e,n1⟩) (he:tfind T e=some ⟨.int .u8,n2⟩) (hd:tfind T dst=some ⟨.str,n3⟩) {w:World} {a:Option Addr} {cap:Nat} :
  (convert src dst (.slice a 0 cap)).run P w = .ok (.string ⟨#[]⟩) w:=by
 cases a with
 | none=>exact conv_nil (hT:=hT) hs he hd
 | some a =>
  rw [run_convert_bytes_string w src dst e _ 0 cap (tab_slice hT hs) (tab_int hT he) (tab_str hT hd)]
  have hld:=run_loadCells_list (P:=P) w a [] (fun j v hj=>by simp at hj)
  rw [run_bytesToString w _ 0 cap [] (by rw [show (0:Nat)=([]:List Value).length from rfl,hld]; rfl)]
  rfl
/-- the octets of a slice, as a string -/
theorem SLv.str {P:Program} {T:Tab} (hT:tabOk P T=true) {src dst e n1 n2 n3:Nat} (hs:tfind T src=some ⟨.slice e,n1⟩) (he:tfind T e=some ⟨.int .u8,n2⟩) (hd:tfind T dst=some ⟨.str,n3⟩) {w:World} {v:Value} {l:List UInt8} (h:SLv w v (bytesV l)) :
  (convert src dst v).run P w = .ok (.string ⟨l.toArray⟩) w:=by
 rcases h with ⟨h,a,c,rfl⟩ | ⟨g,off,c,rfl,_,hc⟩
 ·have:l=[]:=List.map_eq_nil_iff.1 h
  subst this
  exact conv_zero hT hs he hd
 ·have hl:(bytesV l).length=l.length:=by simp [bytesV]
  rw [hl]
  refine conv_bytes (hT:=hT) hs he hd rfl fun j hj=>?_
  have hj':j < (bytesV l).length:=by omega
  rw [List.getElem?_eq_getElem hj']
  exact hc j _ (List.getElem?_eq_getElem hj')
end V
set_option maxHeartbeats 3200000
def in8 (a:Int):Prop:=-9223372036854775808≤a∧a≤9223372036854775807
theorem in8_wf {a:Int} (h:in8 a):(Lit.int .i64 a).wf=true:=by
 unfold in8 at h
 simp [Lit.wf,IntKind.has,IntKind.min,IntKind.max,IntKind.signed,IntKind.bits]; omega
theorem wf_in8 {a:Int} (h:(Lit.int .i64 a).wf=true):in8 a:=by
 simp [Lit.wf,IntKind.has,IntKind.min,IntKind.max,IntKind.signed,IntKind.bits] at h
 unfold in8; omega
def AtOk (a:At2):Prop:=in8 a.1∧a.2.size≤maxLen
theorem AtOk.of {a:At2} (h:attrB a=true):AtOk a:=by
 have:=attrB_t h
 refine ⟨⟨by omega,by omega⟩,?_⟩
 unfold maxLen; omega
def sh8A:Sh:=.cons (.int .i64) (.cons .str .nil)
theorem sh8A_ok:cmpOk Tryz.prog 54 10 sh8A=true:=by kernel_rfl
theorem AtOk.rd {w:World} {a:At2} (h:AtOk a):Rd w sh8A (atC a):=⟨[_],[_],rfl,⟨a.1,rfl,in8_wf h.1⟩,[_],[],rfl,⟨a.2,rfl,h.2⟩,rfl⟩
theorem atC_inj {a b:At2}:atC a=atC b↔a=b:=by
 constructor
 ·intro h
  obtain ⟨_,_⟩:=a
  obtain ⟨_,_⟩:=b
  simp only [atC,List.cons.injEq,Value.string.injEq,Value.int.injEq,true_and,and_true] at h
  rw [h.1,h.2]
 ·rintro rfl; rfl
theorem at_eq (w:World) (a b:At2) (ha:AtOk a) (hb:AtOk b) (xo yo:Operand) :
  ((do eqGuard .eql 54 xo yo (.agg #[.int .i64 a.1,.string a.2]) (.agg #[.int .i64 b.1,.string b.2]); binOp .eql 54 (.agg #[.int .i64 a.1,.string a.2]) (.agg #[.int .i64 b.1,.string b.2]):Sem Value).run Tryz.prog w = .ok (.bool (decide (a=b))) w) ∧
  ((do eqGuard .neq 54 xo yo (.agg #[.int .i64 a.1,.string a.2]) (.agg #[.int .i64 b.1,.string b.2]); binOp .neq 54 (.agg #[.int .i64 a.1,.string a.2]) (.agg #[.int .i64 b.1,.string b.2]):Sem Value).run Tryz.prog w = .ok (.bool (!decide (a=b))) w):=by
 obtain ⟨r,hr,h1,h2⟩:=run_eq_agg sh8A_ok (w0:=w) (w1:=w) ha.rd hb.rd xo yo
 have e:r=decide (a=b):=by rw [Bool.eq_iff_iff,hr,decide_eq_true_iff]; exact atC_inj
 rw [← e]
 exact ⟨h1 w,h2 w⟩
def sameB (c m:Int) (id:ByteArray) (al:List At2) (c2 m2:Int) (id2:ByteArray) (bl:List At2):Bool:=decide (c=c2∧m=m2∧id=id2∧al=bl)
theorem sameB_f {c m:Int} {id:ByteArray} {al:List At2} {c2 m2:Int} {id2:ByteArray} {bl:List At2} (h:¬ (c=c2∧m=m2∧id=id2∧al=bl)):sameB c m id al c2 m2 id2 bl=false:=decide_eq_false h
theorem sameB_t {c m:Int} {id:ByteArray} {al:List At2} {c2 m2:Int} {id2:ByteArray} {bl:List At2} (h:c=c2∧m=m2∧id=id2∧al=bl):sameB c m id al c2 m2 id2 bl=true:=decide_eq_true h
theorem Same8_c {W:World} {v u:Value} {al bl:List At2} (c m:Int) (id:ByteArray) (c2 m2:Int) (id2:ByteArray) (hv:SA W v al) (hu:SA W u bl) (ha:∀ a∈al,AtOk a) (hb:∀ a∈bl,AtOk a) :
  Calls Tryz.prog 21 #[.agg #[.int .i64 c,.int .i64 m,.string id,v],.agg #[.int .i64 c2,.int .i64 m2,.string id2,u]] W fun e w'=>e = .returned (.bool (sameB c m id al c2 m2 id2 bl))∧Ext W w':=by
 have hml:=hv.len
 have hml2:=hu.len
 obtain ⟨p,cp,rfl⟩:=hv.shape
 obtain ⟨p2,cp2,rfl⟩:=hu.shape
 by_cases hg:c=c2∧m=m2∧id=id2∧al.length=bl.length
 ·obtain ⟨rfl,rfl,rfl,hlen⟩:=hg
  refine v_reads (args:=[.agg #[.int .i64 c,.int .i64 m,.string id,.slice p al.length cp],.agg #[.int .i64 c,.int .i64 m,.string id,.slice p2 bl.length cp2]]) TTok FFok Tryz.func21 rfl rfl ?_
  conv=>whnf
  refine VSeq.mk fun Kq hKq=>?_
  conv=>whnf
  have hp:=Hp.nil W
  refine hp.kboxA fun q w hp hx=>?_
  conv=>whnf
  refine hp.kboxA fun q2 w hp hx=>?_
  conv=>whnf
  refine hKq _ _ _ (.refl _) ?_
  clear hKq Kq
  conv=>whnf
  refine VSeq.mk fun Kq hKq=>?_
  conv=>whnf
  refine VSeq.mk fun Kq hKq=>?_
  conv=>whnf
  refine VSeq.mk fun Kq hKq=>?_
  conv=>whnf
  (refine ⟨_,_,Blk.ld (hp.get (i:=1) rfl) TTok rfl rfl,?_⟩; conv=>whnf)
  (refine ⟨_,_,Blk.ld (hp.get (i:=0) rfl) TTok rfl rfl,?_⟩; conv=>whnf)
  (refine hKq _ _ _ (.refl _) ?_; clear hKq Kq; conv=>whnf)
  (refine VSeq.mk fun Kq hKq=>?_; conv=>whnf)
  (refine And.intro (fun h=>absurd (of_decide_eq_true h) (by first | (intro h2; exact absurd rfl h2) | omega | decide)) (fun _=>?_); conv=>whnf)
  (refine ⟨_,_,Blk.ld (hp.get (i:=1) rfl) TTok rfl rfl,?_⟩; conv=>whnf)
  (refine ⟨_,_,Blk.ld (hp.get (i:=0) rfl) TTok rfl rfl,?_⟩; conv=>whnf)
  (refine hKq _ _ _ (.refl _) ?_; clear hKq Kq; conv=>whnf)
  (refine VSeq.mk fun Kq hKq=>?_; conv=>whnf)
  (refine And.intro (fun h=>absurd (of_decide_eq_true h) (by first | (intro h2; exact absurd rfl h2) | omega | decide)) (fun _=>?_); conv=>whnf)
  (refine ⟨_,_,Blk.ld (hp.get (i:=1) rfl) TTok rfl rfl,?_⟩; conv=>whnf)
  (refine ⟨_,_,Blk.ld (hp.get (i:=0) rfl) TTok rfl rfl,?_⟩; conv=>whnf)
  (refine hKq _ _ _ (.refl _) ?_; clear hKq Kq; conv=>whnf)
  (refine And.intro (fun h=>absurd (of_decide_eq_true h) (by first | (intro h2; exact absurd rfl h2) | omega | decide)) (fun _=>?_); conv=>whnf)
  (refine ⟨_,_,Blk.ld (hp.get (i:=1) rfl) TTok rfl rfl,?_⟩; conv=>whnf)
  (refine ⟨_,_,Blk.ld (hp.get (i:=0) rfl) TTok rfl rfl,?_⟩; conv=>whnf)
  (refine hKq _ _ _ (.refl _) ?_; clear hKq Kq; conv=>whnf)
  (refine And.intro (fun h=>absurd (of_decide_eq_true h) (by first | (intro h2; exact absurd rfl h2) | omega | decide)) (fun _=>?_); conv=>whnf)
  (refine hKq _ _ _ (.refl _) ?_; clear hKq Kq; conv=>whnf)
  (refine VSeq.mk fun Kq hKq=>?_; conv=>whnf)
  (refine VSeq.mk fun Kq hKq=>?_; conv=>whnf)
  (refine hKq _ _ _ (.refl _) ?_; clear hKq Kq; conv=>whnf)
  refine ⟨fun mm e w'=>∃ (i:Nat),mm+i=al.length∧e=[(2,.v (.pointer (some ⟨q,0,none⟩))),(3,.v (.pointer (some ⟨q2,0,none⟩))),(5,.v (.int .i64 i))]∧al.take i=bl.take i∧HpM [] W w' [blk q2 [.int .i64 c,.int .i64 m,.string id,.slice p2 bl.length cp2] 24,blk q [.int .i64 c,.int .i64 m,.string id,.slice p al.length cp] 24],
   ⟨al.length,_,⟨0,by omega,rfl,rfl,hp⟩,sub_cons rfl (sub_cons rfl (sub_cons rfl sub_nil))⟩,?_⟩
  clear hp hx
  repeat clear hp
  rintro mm _ w ⟨i,hmm,rfl,hall,hp⟩
  (refine VSeq.mk fun Kq hKq=>?_; conv=>whnf)
  (refine VSeq.mk fun Kq hKq=>?_; conv=>whnf)
  (refine ⟨_,_,Blk.ld (hp.get (i:=1) rfl) TTok rfl rfl,?_⟩; conv=>whnf)
  (refine hKq _ _ _ (.refl _) ?_; clear hKq Kq; conv=>whnf)
  refine ⟨fun hlt=>?_,fun hlt=>?_⟩
  ·have hlt:=of_decide_eq_true hlt
   conv=>whnf
   refine hKq _ _ _ (.refl _) ?_
   clear hKq Kq
   conv=>whnf
   refine VSeq.mk fun Kq hKq=>?_
   conv=>whnf
   refine VSeq.mk fun Kq hKq=>?_
   conv=>whnf
   obtain ⟨a,hai⟩:∃ a,al[i]? = some a:=⟨al[i]'(by omega),List.getElem?_eq_getElem (by omega)⟩
   obtain ⟨b,hbi⟩:∃ b,bl[i]? = some b:=⟨bl[i]'(by omega),List.getElem?_eq_getElem (by omega)⟩
   have hA:=ha a (List.mem_of_getElem? hai)
   have hB:=hb b (List.mem_of_getElem? hbi)
   obtain ⟨g,off,rfl,-⟩:=(hv.ext hp.ext).at hai
   obtain ⟨g2,off2,rfl,-⟩:=(hu.ext hp.ext).at hbi
   have hld:∀ w1,Ext w w1→(Instr.loadAt 54 (.pointer (some ⟨g,addM off i 2,none⟩))).run Tryz.prog w1 = .ok (.agg #[.int .i64 a.1,.string a.2]) w1:=fun w1 hx=>by
    obtain ⟨_,_,he,hl⟩:=(hv.ext (hp.ext.trans hx)).at hai
    simp only [Option.some.injEq,Addr.mk.injEq] at he
    obtain ⟨rfl,rfl,-⟩:=he
    exact hl
   have hld2:∀ w1,Ext w w1→(Instr.loadAt 54 (.pointer (some ⟨g2,addM off2 i 2,none⟩))).run Tryz.prog w1 = .ok (.agg #[.int .i64 b.1,.string b.2]) w1:=fun w1 hx=>by
    obtain ⟨_,_,he,hl⟩:=(hu.ext (hp.ext.trans hx)).at hbi
    simp only [Option.some.injEq,Addr.mk.injEq] at he
    obtain ⟨rfl,rfl,-⟩:=he
    exact hl
   refine v_mixA TTok FFok mixed [(0,false),(1,false),(2,false),(3,false),(4,false),(5,false),(6,false),(7,false),(8,false),(9,false),(10,false)] (by kernel_rfl) ?_
   conv=>whnf
   (refine ⟨_,fun w' hx'=>Blk.ld (Blk.ext (hp.get (i:=1) rfl) hx') TTok rfl rfl,?_⟩; conv=>whnf)
   (refine ⟨_,⟨rfl,by omega⟩,?_⟩; conv=>whnf)
   refine ⟨_,hld,?_⟩
   conv=>whnf
   (refine ⟨_,fun w' hx'=>Blk.ld (Blk.ext (hp.get (i:=0) rfl) hx') TTok rfl rfl,?_⟩; conv=>whnf)
   (refine ⟨_,⟨rfl,by omega⟩,?_⟩; conv=>whnf)
   refine ⟨_,hld2,?_⟩
   conv=>whnf
   refine ⟨_,fun w1 _=>(at_eq w1 a b hA hB _ _).2,?_⟩
   conv=>whnf
   (intro w hx; try (have hp:=hp.call hx); conv=>whnf)
   (refine hKq _ _ _ (.refl _) ?_; clear hKq Kq; conv=>whnf)
   refine ⟨fun hq=>?_,fun hq=>?_⟩
   ·have hq:¬ a=b:=by simpa using hq
    have hF:sameB c m id al c m id bl=false:=sameB_f fun h=>hq (by have:=h.2.2.2; subst this; rw [hai] at hbi; exact Option.some.inj hbi)
    rw [hF]
    (refine VSeq.mk fun Kq hKq=>?_; conv=>whnf)
    (refine hKq _ _ _ (.refl _) ?_; clear hKq Kq; conv=>whnf)
    (exact ⟨rfl,hp.ext⟩)
   ·have hq:a=b:=by simpa using hq
    subst hq
    conv=>whnf
    refine hKq _ _ _ (.refl _) ?_
    clear hKq Kq
    conv=>whnf
    refine Or.inl (And.intro (by omega) ?_)
    conv=>whnf
    refine ⟨mm - 1,_,by omega,⟨i+1,by omega,rfl,by rw [List.take_add_one,List.take_add_one,hai,hbi,hall],hp⟩,sub_cons rfl (sub_cons rfl (sub_cons rfl sub_nil))⟩
  ·have hlt:=of_decide_eq_false hlt
   conv=>whnf
   clear hKq Kq
   refine hKq _ _ _ (.refl _) ?_
   clear hKq Kq
   conv=>whnf
   refine VSeq.mk fun Kq hKq=>?_
   conv=>whnf
   refine hKq _ _ _ (.refl _) ?_
   clear hKq Kq
   conv=>whnf
   obtain rfl:i=al.length:=by omega
   have hF:al=bl:=by
    rw [List.take_of_length_le (Nat.le_refl _),List.take_of_length_le (by omega)] at hall
    exact hall
   rw [sameB_t ⟨rfl,rfl,rfl,hF⟩]
   (exact ⟨rfl,hp.ext⟩)
 ·rw [sameB_f fun h=>hg ⟨h.1,h.2.1,h.2.2.1,by rw [h.2.2.2]⟩]
  refine v_reads (args:=[.agg #[.int .i64 c,.int .i64 m,.string id,.slice p al.length cp],.agg #[.int .i64 c2,.int .i64 m2,.string id2,.slice p2 bl.length cp2]]) TTok FFok Tryz.func21 rfl rfl ?_
  conv=>whnf
  refine VSeq.mk fun Kq hKq=>?_
  conv=>whnf
  have hp:=Hp.nil W
  refine hp.kboxA fun q w hp hx=>?_
  conv=>whnf
  refine hp.kboxA fun q2 w hp hx=>?_
  conv=>whnf
  refine hKq _ _ _ (.refl _) ?_
  clear hKq Kq
  conv=>whnf
  refine VSeq.mk fun Kq hKq=>?_
  conv=>whnf
  refine VSeq.mk fun Kq hKq=>?_
  conv=>whnf
  refine VSeq.mk fun Kq hKq=>?_
  conv=>whnf
  (refine ⟨_,_,Blk.ld (hp.get (i:=1) rfl) TTok rfl rfl,?_⟩; conv=>whnf)
  (refine ⟨_,_,Blk.ld (hp.get (i:=0) rfl) TTok rfl rfl,?_⟩; conv=>whnf)
  (refine hKq _ _ _ (.refl _) ?_; clear hKq Kq; conv=>whnf)
  (refine VSeq.mk fun Kq hKq=>?_; conv=>whnf)
  (refine ⟨fun hd=>?_,fun hd=>?_⟩ <;> (try simp only [Bool.not_eq_true',Bool.not_eq_false',decide_eq_true_eq,decide_eq_false_iff_not,ne_eq,Classical.not_not] at hd) <;> (conv=>whnf))
  (refine hKq _ _ _ (.refl _) ?_; clear hKq Kq; conv=>whnf)
  (refine VSeq.mk fun Kq hKq=>?_; conv=>whnf)
  (refine hKq _ _ _ (.refl _) ?_; clear hKq Kq; conv=>whnf)
  (refine hKq _ _ _ (.refl _) ?_; clear hKq Kq; conv=>whnf)
  (refine VSeq.mk fun Kq hKq=>?_; conv=>whnf)
  (refine hKq _ _ _ (.refl _) ?_; clear hKq Kq; conv=>whnf)
  (exact ⟨rfl,hp.ext⟩)
  (refine ⟨_,_,Blk.ld (hp.get (i:=1) rfl) TTok rfl rfl,?_⟩; conv=>whnf)
  (refine ⟨_,_,Blk.ld (hp.get (i:=0) rfl) TTok rfl rfl,?_⟩; conv=>whnf)
  (refine hKq _ _ _ (.refl _) ?_; clear hKq Kq; conv=>whnf)
  (refine VSeq.mk fun Kq hKq=>?_; conv=>whnf)
  (refine ⟨fun hd=>?_,fun hd=>?_⟩ <;> (try simp only [Bool.not_eq_true',Bool.not_eq_false',decide_eq_true_eq,decide_eq_false_iff_not,ne_eq,Classical.not_not] at hd) <;> (conv=>whnf))
  (refine hKq _ _ _ (.refl _) ?_; clear hKq Kq; conv=>whnf)
  (refine hKq _ _ _ (.refl _) ?_; clear hKq Kq; conv=>whnf)
  (refine VSeq.mk fun Kq hKq=>?_; conv=>whnf)
  (refine hKq _ _ _ (.refl _) ?_; clear hKq Kq; conv=>whnf)
  (exact ⟨rfl,hp.ext⟩)
  (refine ⟨_,_,Blk.ld (hp.get (i:=1) rfl) TTok rfl rfl,?_⟩; conv=>whnf)
  (refine ⟨_,_,Blk.ld (hp.get (i:=0) rfl) TTok rfl rfl,?_⟩; conv=>whnf)
  (refine hKq _ _ _ (.refl _) ?_; clear hKq Kq; conv=>whnf)
  (refine ⟨fun hd=>?_,fun hd=>?_⟩ <;> (try simp only [Bool.not_eq_true',Bool.not_eq_false',decide_eq_true_eq,decide_eq_false_iff_not,ne_eq,Classical.not_not] at hd) <;> (conv=>whnf))
  (refine hKq _ _ _ (.refl _) ?_; clear hKq Kq; conv=>whnf)
  (refine VSeq.mk fun Kq hKq=>?_; conv=>whnf)
  (refine hKq _ _ _ (.refl _) ?_; clear hKq Kq; conv=>whnf)
  (exact ⟨rfl,hp.ext⟩)
  (refine ⟨_,_,Blk.ld (hp.get (i:=1) rfl) TTok rfl rfl,?_⟩; conv=>whnf)
  (refine ⟨_,_,Blk.ld (hp.get (i:=0) rfl) TTok rfl rfl,?_⟩; conv=>whnf)
  (refine hKq _ _ _ (.refl _) ?_; clear hKq Kq; conv=>whnf)
  (refine ⟨fun hd=>?_,fun hd=>?_⟩ <;> (try simp only [Bool.not_eq_true',Bool.not_eq_false',decide_eq_true_eq,decide_eq_false_iff_not,ne_eq,Classical.not_not] at hd) <;> (conv=>whnf))
  (refine VSeq.mk fun Kq hKq=>?_; conv=>whnf)
  (refine hKq _ _ _ (.refl _) ?_; clear hKq Kq; conv=>whnf)
  (exact ⟨rfl,hp.ext⟩)
  (refine hKq _ _ _ (.refl _) ?_; clear hKq Kq; conv=>whnf)
  (refine VSeq.mk fun Kq hKq=>?_; conv=>whnf)
  (refine VSeq.mk fun Kq hKq=>?_; conv=>whnf)
  (refine hKq _ _ _ (.refl _) ?_; clear hKq Kq; conv=>whnf)
  exact absurd ⟨by assumption,by assumption,by assumption,by omega⟩ hg
end Go.Proofs.YtmlmfmdmomegpaaGreatDoor
