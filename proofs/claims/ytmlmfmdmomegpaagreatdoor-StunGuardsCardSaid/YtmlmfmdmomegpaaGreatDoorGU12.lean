/- Chapter 06: the reference's long division. -/
/- Chapter 06: the rest of a long division; the reference's More and Crc. -/
/- Chapter 06: the reference's More and Crc. -/
/- Chapter 08: the reference: an attribute more; integrity; fingerprints. -/
/- Chapter 08: the reference: integrity. -/
/- Chapter 08: the reference: fingerprints. -/
/- Chapter 08: the reference: Verify and Marked. -/
/- Chapter 08: the reference: Protect and Mark. -/
/- Chapter 08: lists of messages. -/
/- Chapter 08: plain laws of what is protected. -/
import Derived.Test.YtmlmfmdmomegpaaGreatDoorGU11
import Derived.Test.YtmlmfmdmomegpaaGreatDoorGU10
import Derived.Test.YtmlmfmdmomegpaaGreatDoorGU09
import Derived.Test.YtmlmfmdmomegpaaGreatDoorGU06
import Derived.Test.YtmlmfmdmomegpaaGreatDoorGU07
namespace Go.Proofs.YtmlmfmdmomegpaaGreatDoor
set_option linter.unusedSimpArgs false
set_option linter.unusedVariables false
set_option maxRecDepth 100000
open Go.RowKit V
set_option maxHeartbeats 6400000

def coefL (n:Nat):List Bool:=(List.range 32).map fun k=>n.testBit k
theorem coefL_len (n:Nat):(coefL n).length=32:=by simp [coefL]
theorem coefL_get (n k:Nat) (h:k < 32):(coefL n)[k]? = some (n.testBit k):=by rw [coefL,List.getElem?_map,List.getElem?_range h]; rfl
theorem tb_high {x j:Nat} (h:x < 4294967296) (hj:32≤j):x.testBit j=false:=Nat.testBit_lt_two_pow (Nat.lt_of_lt_of_le h (show 2 ^ 32≤2 ^ j from Nat.pow_le_pow_right (by omega) hj))
/-- bit after bit -/
def absB (C r:Nat) (l:List Bool):Nat:=l.foldl (fun r b=>step C (r ^^^ b.toNat)) r
theorem absB_snoc (C r:Nat) (l:List Bool) (b:Bool):absB C r (l++[b])=step C (absB C r l ^^^ b.toNat):=by simp [absB]
theorem absB_app (C r:Nat) (l m:List Bool):absB C r (l++m)=absB C (absB C r l) m:=by simp [absB]
theorem toNat_lt2 (b:Bool):b.toNat < 4294967296:=by cases b <;> decide
theorem absB_lt {C:Nat} (hC:C < 4294967296):∀ (l:List Bool) {r:Nat},r < 4294967296→absB C r l < 4294967296
 | [],_,h=>h
 | b :: l,_,h=>absB_lt hC l (step_lt hC (pxor_lt32 h (toNat_lt2 b)))
theorem absB_num (C r x:Nat):∀ n,absB C r ((List.range n).map fun k=>x.testBit k)=stepn C n (r ^^^ (x % 2 ^ n))
 | 0=>by simp [absB,Nat.mod_one,stepn]
 | n+1=>by
  rw [List.range_succ,List.map_append,List.map_cons,List.map_nil,absB_snoc,absB_num C r x n,stepn_succ,Nat.mod_pow_succ]
  have hb:x / 2 ^ n % 2=(x.testBit n).toNat:=by
   rw [testBit_dec]
   rcases Nat.mod_two_eq_zero_or_one (x / 2 ^ n) with h | h <;> rw [h] <;> rfl
  rw [hb,Nat.add_comm,add_xor _ _ n (Nat.mod_lt _ (Nat.two_pow_pos n)),Nat.xor_comm (2 ^ n * _),← Nat.xor_assoc,stepn_xor C n (r ^^^ x % 2 ^ n) _,stepn_shift]
theorem absB_bits (C:Nat):∀ (s:List UInt8) (r:Nat),absB C r (bitsL s)=absorb C r s
 | [],_=>rfl
 | b :: s,r=>by
  have e:bitsL (b :: s)=bit8 b++bitsL s:=rfl
  rw [e,absB_app,bit8,absB_num,Nat.mod_eq_of_lt b.toNat_lt,absB_bits C s]
  rfl
theorem step_bit (C R:Nat) (b:Bool) (j:Nat):(step C (R ^^^ b.toNat)).testBit j=(R.testBit (j+1) ^^ ((R.testBit 0 ^^ b) && C.testBit j)):=by
 have hd:(R ^^^ b.toNat) / 2=R / 2:=by
  have:=xor_div R b.toNat 1
  rw [show (2:Nat) ^ 1=2 from rfl] at this
  rw [this,show b.toNat / 2=0 by cases b <;> rfl,Nat.xor_zero]
 have hm:((R ^^^ b.toNat) % 2=1)↔(R.testBit 0 ^^ b)=true:=by
  have:=xor_mod R b.toNat 1
  rw [show (2:Nat) ^ 1=2 from rfl] at this
  rw [this,testBit_dec,Nat.pow_zero,Nat.div_one]
  rcases Nat.mod_two_eq_zero_or_one R with h | h <;> cases b <;> rw [h] <;> decide
 unfold step
 rw [hd]
 by_cases h:(R ^^^ b.toNat) % 2=1
 ·rw [if_pos h,hm.1 h,Nat.testBit_xor,Nat.testBit_div_two]; simp
 ·have h':(R.testBit 0 ^^ b)=false:=by
   cases hh:(R.testBit 0 ^^ b) with
   | false=>rfl
   | true=>exact absurd (hm.2 hh) h
  rw [if_neg h,h',Nat.testBit_div_two]; simp

theorem coef_f (n:Nat) (hn:n < 4294967296):MakesF Tryz.prog 175 #[.int .i64 n] fun v=>[row 4 1 v 32 (bw (coefL n))]:=by
 first | refine v_makes TTok FFok Tryz.func175 rfl rfl fun w0=>?_ | refine v_makes (args:=[]) TTok FFok Tryz.func175 rfl rfl fun w0=>?_
 conv=>whnf
 refine VSeq.mk fun Kq hKq=>?_
 conv=>whnf
 refine hKq _ _ _ (.refl _) ?_
 clear hKq Kq
 conv=>whnf
 refine VSeq.mk fun Kq hKq=>?_
 conv=>whnf
 refine hKq _ _ _ (.refl _) ?_
 clear hKq Kq
 conv=>whnf
 refine VSeq.mk fun Kq hKq=>?_
 conv=>whnf
 refine VSeq.mk fun Kq hKq=>?_
 conv=>whnf
 refine hKq _ _ _ (.refl _) ?_
 clear hKq Kq
 conv=>whnf
 have hp:=Hp.nil w0
 have hp:=hp.knil 4 1
 refine ⟨fun m l w=>∃ (i:Nat) (v:Value),m+i=32∧l=[(0,.v (.int .i64 (n / 2 ^ i:Nat))),(3,.v v),(4,.v (.int .i64 i))]∧Hp w0 w [row 4 1 v i (bw ((coefL n).take i))],
  ⟨32,_,⟨0,_,by omega,rfl,hp⟩,sub_cons (look_int rfl (by simp)) (sub_cons rfl (sub_cons rfl sub_nil))⟩,?_⟩
 clear hp
 repeat clear hp
 rintro m _ w ⟨i,v,hm,rfl,hp⟩
 have hd:n / 2 ^ (i+1)=n / 2 ^ i / 2:=by rw [Nat.pow_succ,Nat.div_div_eq_div_mul]
 have hyl:n / 2 ^ i < 4294967296:=Nat.lt_of_le_of_lt (Nat.div_le_self _ _) hn
 have htb:=testBit_dec n i
 generalize hy:n / 2 ^ i=y at *
 conv=>whnf
 refine VSeq.mk fun Kq hKq=>?_
 conv=>whnf
 refine VSeq.mk fun Kq hKq=>?_
 conv=>whnf
 refine hKq _ _ _ (.refl _) ?_
 clear hKq Kq
 conv=>whnf
 refine ⟨fun hlt=>?_,fun hlt=>?_⟩
 ·have hlt:=of_decide_eq_true hlt
  conv=>whnf
  refine hKq _ _ _ (.refl _) ?_
  clear hKq Kq
  conv=>whnf
  refine VSeq.mk fun Kq hKq=>?_
  conv=>whnf
  refine VSeq.mk fun Kq hKq=>?_
  conv=>whnf
  refine And.intro (by omega) ?_
  conv=>whnf
  have htk:(coefL n).take (i+1)=(coefL n).take i++[n.testBit i]:=take_snoc (coefL_get n i (by omega))
  have e2:(decide ((y:Int) % 2=1))=n.testBit i:=by rw [htb]; exact decide_eq_decide.2 (by omega)
  rw [e2]
  refine hp.kmade (bw [n.testBit i]) 4 (fun b=>.slice (some ⟨b,0,none⟩) 1 1) (by kernel_rfl) fun tb w hp hx=>?_
  conv=>whnf
  refine hp.kapp sl251 1 rfl (Blk.src TTok (hp.get (i:=0) rfl) rfl rfl (bw_one _)) (by omega) (by unfold maxLen; omega) fun v' w hp=>?_
  simp only [List.set_cons_zero,List.set_cons_succ] at hp
  conv=>whnf
  refine hKq _ _ _ (.refl _) ?_
  clear hKq Kq
  conv=>whnf
  refine And.intro (by omega) ?_
  conv=>whnf
  refine hKq _ _ _ (.refl _) ?_
  clear hKq Kq
  conv=>whnf
  refine Or.inl (And.intro (by omega) ?_)
  conv=>whnf
  refine ⟨m - 1,_,by omega,⟨i+1,v',by omega,rfl,?_⟩,sub_cons (look_int rfl (by rw [hd]; omega)) (sub_cons rfl (sub_cons rfl sub_nil))⟩
  rw [htk,bw_app]; exact hp.tail
 ·have hlt:=of_decide_eq_false hlt
  conv=>whnf
  clear hKq Kq
  refine hKq _ _ _ (.refl _) ?_
  clear hKq Kq
  conv=>whnf
  refine VSeq.mk fun Kq hKq=>?_
  conv=>whnf
  refine hKq _ _ _ (.refl _) ?_
  clear hKq Kq
  conv=>whnf
  obtain rfl:i=32:=by omega
  rw [List.take_of_length_le (by rw [coefL_len]; omega)] at hp
  exact hp

theorem rpowers_p (k:Nat) (hk:Kd k):PureF Tryz.prog 187 #[.int .i64 k] (.agg (bw (coefL (crcC k))).toArray):=by
 have hk:k=1∨k=2:=by unfold Kd at hk; omega
 have hC:=crcC_lt k
 have hc1:k=2→crcC k=2197175160:=fun h=>by rw [h]; rfl
 have hc2:¬ k=2→crcC k=3988292384:=fun h=>by unfold crcC; rw [if_neg h]
 have hL:=coefL_len (crcC k)
 have hg:=coefL_get (crcC k)
 have htb:=testBit_dec (crcC k)
 generalize coefL (crcC k)=cl at *
 generalize crcC k=C at *
 first | refine v_pure TTok FFok Tryz.func187 rfl rfl fun w0=>?_ | refine v_pure (args:=[]) TTok FFok Tryz.func187 rfl rfl fun w0=>?_
 conv=>whnf
 refine VSeq.mk fun Kq hKq=>?_
 conv=>whnf
 have hp:=Hp.nil w0
 refine hp.kalloc z255 fun r w hp hx=>?_
 conv=>whnf
 refine hKq _ _ _ (.refl _) ?_
 clear hKq Kq
 conv=>whnf
 refine VSeq.mk fun Kq hKq=>?_
 conv=>whnf
 refine hKq _ _ _ (.refl _) ?_
 clear hKq Kq
 conv=>whnf
 refine VSeq.mk fun Kq hKq=>?_
 conv=>whnf
 refine VSeq.mk fun Kq hKq=>?_
 conv=>whnf
 refine hKq _ _ _ (.refl _) ?_
 clear hKq Kq
 conv=>whnf
 clear hx
 refine ⟨fun h2=>?_,fun h2=>?_⟩
 ·have h2:=of_decide_eq_true h2
  conv=>whnf
  refine hKq _ _ _ (.refl _) ?_
  clear hKq Kq
  conv=>whnf
  refine VSeq.mk fun Kq hKq=>?_
  conv=>whnf
  refine hp.kalloc z255 fun o w hp hx=>?_
  conv=>whnf
  refine hKq _ _ _ (.refl _) ?_
  clear hKq Kq
  conv=>whnf
  refine VSeq.mk fun Kq hKq=>?_
  conv=>whnf
  refine VSeq.mk fun Kq hKq=>?_
  conv=>whnf
  refine hKq _ _ _ (.refl _) ?_
  clear hKq Kq
  conv=>whnf
  clear hx
  refine ⟨fun m l w=>∃ i:Nat,m+i=32∧l=[(2,.v (.pointer (some ⟨r,0,none⟩))),(3,.v (.int .i64 (C:Nat))),(4,.v (.pointer (some ⟨o,0,none⟩))),(5,.v (.int .i64 i))] ∧
    Hp w0 w [blk o ((bw cl).take i++List.replicate (32 - i) (.bool false)) 255,blk r (List.replicate 32 (.bool false)) 255],
   ⟨32,_,⟨0,by omega,rfl,hp⟩,sub_cons rfl (sub_cons (look_int rfl (by have:=hc1 (by omega); omega)) (sub_cons rfl (sub_cons rfl sub_nil)))⟩,?_⟩
  clear hp
  repeat clear hp
  rintro m _ w ⟨i,hm,rfl,hp⟩
  have hL2:(bw cl).length=32:=by rw [bw_len,hL]
  conv=>whnf
  refine VSeq.mk fun Kq hKq=>?_
  conv=>whnf
  refine VSeq.mk fun Kq hKq=>?_
  conv=>whnf
  refine hKq _ _ _ (.refl _) ?_
  clear hKq Kq
  conv=>whnf
  refine ⟨fun hlt=>?_,fun hlt=>?_⟩
  ·have hlt:=of_decide_eq_true hlt
   conv=>whnf
   refine hKq _ _ _ (.refl _) ?_
   clear hKq Kq
   conv=>whnf
   refine VSeq.mk fun Kq hKq=>?_
   conv=>whnf
   refine And.intro (by omega) ?_
   conv=>whnf
   have hgi:=hg i (by omega)
   have hti:=htb i
   have hyl:C / 2 ^ i < 4294967296:=Nat.lt_of_le_of_lt (Nat.div_le_self _ _) hC
   refine ⟨i,⟨by first | rfl | omega,by omega⟩,?_⟩
   conv=>whnf
   have e:((C:Nat):Int) / 2 ^ i=((C / 2 ^ i:Nat):Int):=by rw [Int.natCast_ediv,Int.natCast_pow]; rfl
   rw [e]
   generalize C.testBit i=tb0 at *
   clear e
   generalize C / 2 ^ i=y at *
   refine ⟨y,1,y % 2,⟨by first | rfl | omega,by first | rfl | omega,by omega,by omega⟩,by (dsimp only; exact and_one _),?_⟩
   conv=>whnf
   have e2:(decide (((y % 2:Nat):Int)=1))=tb0:=by rw [hti]; exact decide_eq_decide.2 (by omega)
   rw [e2]
   refine ⟨i,⟨by first | rfl | omega,by omega⟩,?_⟩
   conv=>whnf
   refine hp.kst1 (off:=i) TTok (by rfl) 0 (by rfl) (by rfl) (by rfl) (by rw [List.length_append,List.length_take,List.length_replicate,hL2]; omega) fun w hp=>?_
   try simp only [List.set_cons_zero,List.set_cons_succ,EV.val] at hp
   conv=>whnf
   refine hKq _ _ _ (.refl _) ?_
   clear hKq Kq
   conv=>whnf
   refine Or.inl (And.intro (by omega) ?_)
   conv=>whnf
   rw [set_next (bw cl) _ (Value.bool false) i 32 (by omega) hL2 (bw_get hgi)] at hp
   exact ⟨m - 1,_,by omega,⟨i+1,by omega,rfl,hp⟩,sub_cons rfl (sub_cons rfl (sub_cons rfl (sub_cons rfl sub_nil)))⟩
  ·have hlt:=of_decide_eq_false hlt
   conv=>whnf
   clear hKq Kq
   refine hKq _ _ _ (.refl _) ?_
   clear hKq Kq
   conv=>whnf
   refine VSeq.mk fun Kq hKq=>?_
   conv=>whnf
   obtain rfl:i=32:=by omega
   have hb:(bw cl).take 32++List.replicate (32 - 32) (Value.bool false)=bw cl:=by
    rw [List.take_of_length_le (by omega)]; simp
   rw [hb] at hp
   refine ⟨_,_,Blk.ldN (hp.get (i:=0) rfl) TTok rfl (hL2),?_⟩
   conv=>whnf
   refine hp.kstA TTok rfl 1 rfl (hL2) (bw_one _) (List.length_replicate) fun w hp=>?_
   try simp only [List.set_cons_zero,List.set_cons_succ,EV.val] at hp
   conv=>whnf
   refine hKq _ _ _ (.refl _) ?_
   clear hKq Kq
   conv=>whnf
   exact ⟨_,Blk.lvN (hp.get (i:=1) rfl) TTok rfl hL2,rfl,hp.ext⟩
 ·have h2:=of_decide_eq_false h2
  conv=>whnf
  refine hKq _ _ _ (.refl _) ?_
  clear hKq Kq
  conv=>whnf
  refine VSeq.mk fun Kq hKq=>?_
  conv=>whnf
  refine hp.kalloc z255 fun o w hp hx=>?_
  conv=>whnf
  refine hKq _ _ _ (.refl _) ?_
  clear hKq Kq
  conv=>whnf
  refine VSeq.mk fun Kq hKq=>?_
  conv=>whnf
  refine VSeq.mk fun Kq hKq=>?_
  conv=>whnf
  refine hKq _ _ _ (.refl _) ?_
  clear hKq Kq
  conv=>whnf
  clear hx
  refine ⟨fun m l w=>∃ i:Nat,m+i=32∧l=[(2,.v (.pointer (some ⟨r,0,none⟩))),(3,.v (.int .i64 (C:Nat))),(4,.v (.pointer (some ⟨o,0,none⟩))),(5,.v (.int .i64 i))] ∧
    Hp w0 w [blk o ((bw cl).take i++List.replicate (32 - i) (.bool false)) 255,blk r (List.replicate 32 (.bool false)) 255],
   ⟨32,_,⟨0,by omega,rfl,hp⟩,sub_cons rfl (sub_cons (look_int rfl (by have:=hc2 (by omega); omega)) (sub_cons rfl (sub_cons rfl sub_nil)))⟩,?_⟩
  clear hp
  repeat clear hp
  rintro m _ w ⟨i,hm,rfl,hp⟩
  have hL2:(bw cl).length=32:=by rw [bw_len,hL]
  conv=>whnf
  refine VSeq.mk fun Kq hKq=>?_
  conv=>whnf
  refine VSeq.mk fun Kq hKq=>?_
  conv=>whnf
  refine hKq _ _ _ (.refl _) ?_
  clear hKq Kq
  conv=>whnf
  refine ⟨fun hlt=>?_,fun hlt=>?_⟩
  ·have hlt:=of_decide_eq_true hlt
   conv=>whnf
   refine hKq _ _ _ (.refl _) ?_
   clear hKq Kq
   conv=>whnf
   refine VSeq.mk fun Kq hKq=>?_
   conv=>whnf
   refine And.intro (by omega) ?_
   conv=>whnf
   have hgi:=hg i (by omega)
   have hti:=htb i
   have hyl:C / 2 ^ i < 4294967296:=Nat.lt_of_le_of_lt (Nat.div_le_self _ _) hC
   refine ⟨i,⟨by first | rfl | omega,by omega⟩,?_⟩
   conv=>whnf
   have e:((C:Nat):Int) / 2 ^ i=((C / 2 ^ i:Nat):Int):=by rw [Int.natCast_ediv,Int.natCast_pow]; rfl
   rw [e]
   generalize C.testBit i=tb0 at *
   clear e
   generalize C / 2 ^ i=y at *
   refine ⟨y,1,y % 2,⟨by first | rfl | omega,by first | rfl | omega,by omega,by omega⟩,by (dsimp only; exact and_one _),?_⟩
   conv=>whnf
   have e2:(decide (((y % 2:Nat):Int)=1))=tb0:=by rw [hti]; exact decide_eq_decide.2 (by omega)
   rw [e2]
   refine ⟨i,⟨by first | rfl | omega,by omega⟩,?_⟩
   conv=>whnf
   refine hp.kst1 (off:=i) TTok (by rfl) 0 (by rfl) (by rfl) (by rfl) (by rw [List.length_append,List.length_take,List.length_replicate,hL2]; omega) fun w hp=>?_
   try simp only [List.set_cons_zero,List.set_cons_succ,EV.val] at hp
   conv=>whnf
   refine hKq _ _ _ (.refl _) ?_
   clear hKq Kq
   conv=>whnf
   refine Or.inl (And.intro (by omega) ?_)
   conv=>whnf
   rw [set_next (bw cl) _ (Value.bool false) i 32 (by omega) hL2 (bw_get hgi)] at hp
   exact ⟨m - 1,_,by omega,⟨i+1,by omega,rfl,hp⟩,sub_cons rfl (sub_cons rfl (sub_cons rfl (sub_cons rfl sub_nil)))⟩
  ·have hlt:=of_decide_eq_false hlt
   conv=>whnf
   clear hKq Kq
   refine hKq _ _ _ (.refl _) ?_
   clear hKq Kq
   conv=>whnf
   refine VSeq.mk fun Kq hKq=>?_
   conv=>whnf
   obtain rfl:i=32:=by omega
   have hb:(bw cl).take 32++List.replicate (32 - 32) (Value.bool false)=bw cl:=by
    rw [List.take_of_length_le (by omega)]; simp
   rw [hb] at hp
   refine ⟨_,_,Blk.ldN (hp.get (i:=0) rfl) TTok rfl (hL2),?_⟩
   conv=>whnf
   refine hp.kstA TTok rfl 1 rfl (hL2) (bw_one _) (List.length_replicate) fun w hp=>?_
   try simp only [List.set_cons_zero,List.set_cons_succ,EV.val] at hp
   conv=>whnf
   refine hKq _ _ _ (.refl _) ?_
   clear hKq Kq
   conv=>whnf
   exact ⟨_,Blk.lvN (hp.get (i:=1) rfl) TTok rfl hL2,rfl,hp.ext⟩

theorem number6_p (R:Nat) (hR:R < 4294967296):PureF Tryz.prog 176 #[.agg (bw (coefL R)).toArray] (.int .i64 R):=by
 first | refine v_pure TTok FFok Tryz.func176 rfl rfl fun w0=>?_ | refine v_pure (args:=[]) TTok FFok Tryz.func176 rfl rfl fun w0=>?_
 conv=>whnf
 refine VSeq.mk fun Kq hKq=>?_
 conv=>whnf
 have hp:=Hp.nil w0
 refine hp.kbox (bw (coefL R)) rfl fun b w hp hx=>?_
 conv=>whnf
 refine hKq _ _ _ (.refl _) ?_
 clear hKq Kq
 conv=>whnf
 refine VSeq.mk fun Kq hKq=>?_
 conv=>whnf
 refine hKq _ _ _ (.refl _) ?_
 clear hKq Kq
 conv=>whnf
 refine VSeq.mk fun Kq hKq=>?_
 conv=>whnf
 refine VSeq.mk fun Kq hKq=>?_
 conv=>whnf
 refine hKq _ _ _ (.refl _) ?_
 clear hKq Kq
 conv=>whnf
 clear hx
 refine ⟨fun m l w=>m≤32∧l=[(1,.v (.pointer (some ⟨b,0,none⟩))),(3,.v (.int .i64 (R / 2 ^ m:Nat))),(4,.v (.int .i64 ((m:Int) - 1)))]∧Hp w0 w [blk b (bw (coefL R)) 255],
  ⟨32,_,⟨by omega,rfl,hp⟩,sub_cons rfl (sub_cons (look_int rfl (by rw [Nat.div_eq_of_lt (show R < 2 ^ 32 from hR)]; rfl)) (sub_cons rfl sub_nil))⟩,?_⟩
 clear hp
 repeat clear hp
 rintro m _ w ⟨hm,rfl,hp⟩
 conv=>whnf
 refine VSeq.mk fun Kq hKq=>?_
 conv=>whnf
 refine VSeq.mk fun Kq hKq=>?_
 conv=>whnf
 refine hKq _ _ _ (.refl _) ?_
 clear hKq Kq
 conv=>whnf
 refine ⟨fun hlt=>?_,fun hlt=>?_⟩
 ·have hlt:=of_decide_eq_true hlt
  conv=>whnf
  refine hKq _ _ _ (.refl _) ?_
  clear hKq Kq
  conv=>whnf
  refine VSeq.mk fun Kq hKq=>?_
  conv=>whnf
  refine VSeq.mk fun Kq hKq=>?_
  conv=>whnf
  obtain ⟨j,rfl⟩:∃ j,m=j+1:=⟨m - 1,by omega⟩
  have hg:=coefL_get R j (by omega)
  have htb:=testBit_dec R j
  have hd:R / 2 ^ (j+1)=R / 2 ^ j / 2:=by rw [Nat.pow_succ,Nat.div_div_eq_div_mul]
  have hyl:R / 2 ^ j < 4294967296:=Nat.lt_of_le_of_lt (Nat.div_le_self _ _) hR
  obtain ⟨y0,hy0⟩:∃ y,R / 2 ^ j=y:=⟨_,rfl⟩
  have hyl2:y0 < 4294967296:=by rw [← hy0]; exact hyl
  have hq : -9223372036854775808≤2 * ((R / 2 ^ (j+1):Nat):Int)∧2 * ((R / 2 ^ (j+1):Nat):Int)≤9223372036854775807:=by rw [hd,hy0]; omega
  refine Or.inl (And.intro hq ?_)
  clear hy0 hyl2 hq
  conv=>whnf
  refine hKq _ _ _ (.refl _) ?_
  clear hKq Kq
  conv=>whnf
  refine VSeq.mk fun Kq hKq=>?_
  conv=>whnf
  refine ⟨j,⟨by first | rfl | omega,by omega⟩,?_⟩
  conv=>whnf
  refine ⟨_,_,Blk.ld (hp.get (i:=0) rfl) TTok rfl (bw_get hg),?_⟩
  conv=>whnf
  refine hKq _ _ _ (.refl _) ?_
  clear hKq Kq
  conv=>whnf
  rw [htb]
  generalize hy:R / 2 ^ j=y at *
  refine ⟨fun hb=>?_,fun hb=>?_⟩
  ·have hb:=of_decide_eq_true hb
   conv=>whnf
   refine Or.inl (And.intro (by omega) ?_)
   conv=>whnf
   refine hKq _ _ _ (.refl _) ?_
   clear hKq Kq
   conv=>whnf
   refine Or.inl (And.intro (by omega) ?_)
   conv=>whnf
   exact ⟨j,_,by omega,⟨by omega,rfl,hp⟩,sub_cons rfl (sub_cons (look_int rfl (by rw [hy]; omega)) (sub_cons (look_int rfl (by omega)) sub_nil))⟩
  ·have hb:=of_decide_eq_false hb
   conv=>whnf
   refine hKq _ _ _ (.refl _) ?_
   clear hKq Kq
   conv=>whnf
   refine Or.inl (And.intro (by omega) ?_)
   conv=>whnf
   exact ⟨j,_,by omega,⟨by omega,rfl,hp⟩,sub_cons rfl (sub_cons (look_int rfl (by rw [hy]; omega)) (sub_cons (look_int rfl (by omega)) sub_nil))⟩
 ·have hlt:=of_decide_eq_false hlt
  conv=>whnf
  clear hKq Kq
  refine hKq _ _ _ (.refl _) ?_
  clear hKq Kq
  conv=>whnf
  refine VSeq.mk fun Kq hKq=>?_
  conv=>whnf
  refine hKq _ _ _ (.refl _) ?_
  clear hKq Kq
  conv=>whnf
  obtain rfl:m=0:=by omega
  exact ⟨V.ret_int (by simp),hp.ext⟩
set_option maxHeartbeats 6400000

/-- a list whose first places are joined with the bits of X -/
def mixX (raw:List Bool) (X:Nat):List Bool:=raw.mapIdx fun q b=>(b ^^ X.testBit q)
theorem mixX_len (raw:List Bool) (X:Nat):(mixX raw X).length=raw.length:=by simp [mixX]
theorem mixX_get (raw:List Bool) (X q:Nat) (h:q < raw.length):(mixX raw X)[q]? = some (raw[q] ^^ X.testBit q):=by simp [mixX,h]
theorem neq_bool (xo yo:Operand) (a b:Bool) (w:World):(do eqGuard .neq 4 xo yo (.bool a) (.bool b); binOp .neq 4 (.bool a) (.bool b):Sem Value).run Tryz.prog w = .ok (.bool (a ^^ b)) w:=by
 cases a <;> cases b <;> kernel_rfl
set_option maxHeartbeats 1000000 in
theorem rest_c {w:World} {g cap n el:Nat} {zs:List Value} (k:Nat) (hk:Kd k) (raw:List Bool) (X:Nat) (hX:X < 4294967296) (hr:raw.length=n+32) (hn:n≤100000) (hz:∀ q,n≤q→(h:q < raw.length)→raw[q]=false)
  (hb:Blk w g (bw (mixX raw X)++zs) el) :
  Calls Tryz.prog 177 #[.int .i64 k,.slice (some ⟨g,0,none⟩) (n+32) cap] w fun e w'=>e = .returned (.agg (bw (coefL (absB (crcC k) X (raw.take n)))).toArray)∧Ext w w':=by
 have hC:=crcC_lt k
 have hpw:=rpowers_p k hk
 have hcg:=coefL_get (crcC k)
 have hcl:=coefL_len (crcC k)
 have hst:=step_bit (crcC k)
 generalize crcC k=C at *
 refine v_reads TTok FFok Tryz.func177 rfl rfl ?_
 conv=>whnf
 refine VSeq.mk fun Kq hKq=>?_
 conv=>whnf
 have hp:=Hp.nil w
 conv=>whnf
 refine hp.kalloc z255 fun res w hp hx=>?_
 conv=>whnf
 refine hKq _ _ _ (.refl _) ?_
 clear hKq Kq
 conv=>whnf
 refine VSeq.mk fun Kq hKq=>?_
 conv=>whnf
 refine PureF.use (hpw) fun w hx=>?_
 try (have hp:=hp.call hx)
 conv=>whnf
 refine hp.kalloc z255 fun po w hp hx=>?_
 conv=>whnf
 refine hp.kstA TTok rfl 0 rfl (by rw [bw_len,hcl]) (bw_one _) (List.length_replicate) fun w hp=>?_
 try simp only [List.set_cons_zero,List.set_cons_succ,EV.val] at hp
 conv=>whnf
 refine hKq _ _ _ (.refl _) ?_
 clear hKq Kq
 conv=>whnf
 refine VSeq.mk fun Kq hKq=>?_
 conv=>whnf
 have hL:=mixX_len raw X
 refine hp.kmkS sl251 z4 (n+32) (by omega) (by unfold maxLen; omega) fun wb w hp hx=>?_
 conv=>whnf
 refine hKq _ _ _ (.refl _) ?_
 clear hKq Kq
 conv=>whnf
 refine VSeq.mk fun Kq hKq=>?_
 conv=>whnf
 have hbo:=hp.old hb (by simp)
 refine hp.kcopy sl251 0 rfl (off:=0) (bw (mixX raw X)) (by rw [bw_len,hL,hr]; omega) (fun j v hj=>by rw [add_none,Nat.zero_add,hbo.cell]; exact app_get hj) (by rw [bw_len,hL,hr,List.length_replicate]; omega) (bw_one _) fun w hp=>?_
 rw [show (List.replicate (n+32) (Value.bool false)).take 0++bw (mixX raw X)++(List.replicate (n+32) (Value.bool false)).drop (0+(bw (mixX raw X)).length)=bw (mixX raw X) by
  rw [bw_len,hL,hr,List.take_zero,List.nil_append,List.drop_of_length_le (by simp),List.append_nil]] at hp
 simp only [List.set_cons_zero] at hp
 conv=>whnf
 refine hKq _ _ _ (.refl _) ?_
 clear hKq Kq
 conv=>whnf
 refine VSeq.mk fun Kq hKq=>?_
 conv=>whnf
 refine VSeq.mk fun Kq hKq=>?_
 conv=>whnf
 refine hKq _ _ _ (.refl _) ?_
 clear hKq Kq
 conv=>whnf
 clear hbo hx
 refine ⟨fun m l w'=>∃ (i:Nat) (ws:List Bool),m+i=n∧l=[(4,.v (.pointer (some ⟨res,0,none⟩))),(5,.v (.pointer (some ⟨po,0,none⟩))),(6,.v (.slice (some ⟨wb,0,none⟩) (n+32) (n+32))),(7,.v (.int .i64 i))] ∧
   (ws.length=n+32∧∀ q,i≤q→(h:q < raw.length)→ws[q]? = some (raw[q] ^^ (absB C X (raw.take i)).testBit (q - i))) ∧
   Hp _ w' [blk wb (bw ws) 4,blk po (bw (coefL C)) 255,blk res (List.replicate 32 (.bool false)) 255],
  ⟨n,_,⟨0,mixX raw X,by omega,rfl,⟨by omega,fun q _ h=>mixX_get raw X q h⟩,hp⟩,sub_cons rfl (sub_cons rfl (sub_cons rfl (sub_cons rfl sub_nil)))⟩,?_⟩
 clear hp
 repeat clear hp
 rintro m _ w ⟨i,ws,hm,rfl,⟨hwl,hws⟩,hp⟩
 have hR:=absB_lt hC (raw.take i) hX
 conv=>whnf
 refine VSeq.mk fun Kq hKq=>?_
 conv=>whnf
 refine VSeq.mk fun Kq hKq=>?_
 conv=>whnf
 refine Or.inl (And.intro (by omega) ?_)
 conv=>whnf
 refine hKq _ _ _ (.refl _) ?_
 clear hKq Kq
 conv=>whnf
 refine ⟨fun hlt=>?_,fun hlt=>?_⟩
 ·have hlt:=of_decide_eq_true hlt
  conv=>whnf
  refine hKq _ _ _ (.refl _) ?_
  clear hKq Kq
  conv=>whnf
  refine VSeq.mk fun Kq hKq=>?_
  conv=>whnf
  refine VSeq.mk fun Kq hKq=>?_
  conv=>whnf
  have hi:i < raw.length:=by omega
  have hnx:absB C X (raw.take (i+1))=step C (absB C X (raw.take i) ^^^ raw[i].toNat):=by rw [take_snoc (List.getElem?_eq_getElem hi),absB_snoc]
  have hbit:=hst (absB C X (raw.take i)) raw[i]
  obtain ⟨R',hR'⟩:∃ R',absB C X (raw.take (i+1))=R':=⟨_,rfl⟩
  rw [← hnx,hR'] at hbit
  have hgi:=hws i (Nat.le_refl _) hi
  rw [Nat.sub_self] at hgi
  clear hnx
  generalize absB C X (raw.take i)=R at *
  refine ⟨i,⟨by first | rfl | omega,by omega⟩,?_⟩
  conv=>whnf
  refine ⟨_,_,Blk.ld (hp.get (i:=0) rfl) TTok rfl (bw_get hgi),?_⟩
  conv=>whnf
  refine hKq _ _ _ (.refl _) ?_
  clear hKq Kq
  conv=>whnf
  refine ⟨fun ht=>?_,fun ht=>?_⟩
  ·conv=>whnf
   refine VSeq.mk fun Kq hKq=>?_
   conv=>whnf
   refine hKq _ _ _ (.refl _) ?_
   clear hKq Kq
   conv=>whnf
   refine ⟨fun m2 l w'=>∃ (j:Nat) (ws':List Bool),m2+j=32∧l=[(4,.v (.pointer (some ⟨res,0,none⟩))),(5,.v (.pointer (some ⟨po,0,none⟩))),(6,.v (.slice (some ⟨wb,0,none⟩) (n+32) (n+32))),(7,.v (.int .i64 i)),(8,.v (.int .i64 j))] ∧
     (ws'.length=n+32∧∀ q,i+1≤q→(h:q < raw.length)→ws'[q]? = some ((raw[q] ^^ R.testBit (q - i)) ^^ (decide (q - (i+1) < j) && C.testBit (q - (i+1))))) ∧
     Hp _ w' [blk wb (bw ws') 4,blk po (bw (coefL C)) 255,blk res (List.replicate 32 (.bool false)) 255],
    ⟨32,_,⟨0,ws,by omega,rfl,⟨hwl,fun q hq h=>by rw [hws q (by omega) h]; simp⟩,hp⟩,sub_cons rfl (sub_cons rfl (sub_cons rfl (sub_cons rfl (sub_cons rfl sub_nil))))⟩,?_⟩
   clear hp
   repeat clear hp
   rintro m2 _ w ⟨j,ws',hm2,rfl,⟨hwl',hws'⟩,hp⟩
   conv=>whnf
   refine VSeq.mk fun Kq hKq=>?_
   conv=>whnf
   refine VSeq.mk fun Kq hKq=>?_
   conv=>whnf
   refine hKq _ _ _ (.refl _) ?_
   clear hKq Kq
   conv=>whnf
   refine ⟨fun hlt2=>?_,fun hlt2=>?_⟩
   ·have hlt2:=of_decide_eq_true hlt2
    conv=>whnf
    refine hKq _ _ _ (.refl _) ?_
    clear hKq Kq
    conv=>whnf
    refine VSeq.mk fun Kq hKq=>?_
    conv=>whnf
    have hq:=hws' (i+1+j) (by omega) (by omega)
    have hcj:=hcg j (by omega)
    rw [show i+1+j - (i+1)=j by omega,show decide (j < j)=false by simp,Bool.false_and,Bool.xor_false] at hq
    refine v_mix TTok FFok mixed 17 [(0,false),(1,false),(2,false),(3,false),(4,false),(5,false),(6,false),(7,false),(8,false),(9,false),(10,false),(11,false),(12,false),(13,false),(14,false),(15,false),(16,false)] (by kernel_rfl) ?_
    conv=>whnf
    refine Or.inl (And.intro (by omega) ?_)
    conv=>whnf
    refine Or.inl (And.intro (by omega) ?_)
    conv=>whnf
    refine Or.inl (And.intro (by omega) ?_)
    conv=>whnf
    refine Or.inl (And.intro (by omega) ?_)
    conv=>whnf
    refine ⟨i+1+j,⟨by first | rfl | omega,by omega⟩,?_⟩
    conv=>whnf
    refine ⟨_,fun w' hx'=>Blk.ld (Blk.ext (hp.get (i:=0) rfl) hx') TTok rfl (bw_get hq),?_⟩
    conv=>whnf
    refine ⟨j,⟨by first | rfl | omega,by omega⟩,?_⟩
    conv=>whnf
    refine ⟨_,fun w' hx'=>Blk.ld (Blk.ext (hp.get (i:=1) rfl) hx') TTok rfl (bw_get hcj),?_⟩
    conv=>whnf
    refine ⟨_,fun w1 _=>neq_bool _ _ _ _ w1,?_⟩
    conv=>whnf
    refine ⟨i+1+j,⟨by first | rfl | omega,by omega⟩,?_⟩
    conv=>whnf
    intro w hx
    try (have hp:=hp.call hx)
    conv=>whnf
    refine hp.kst1 (off:=i+1+j) TTok (by rfl) 0 (by rfl) (by rfl) (by rfl) (by rw [bw_len,hwl']; omega) fun w hp=>?_
    try simp only [List.set_cons_zero,List.set_cons_succ,EV.val] at hp
    conv=>whnf
    refine hKq _ _ _ (.refl _) ?_
    clear hKq Kq
    conv=>whnf
    refine Or.inl (And.intro (by omega) ?_)
    conv=>whnf
    rw [bw_set] at hp
    refine ⟨m2 - 1,_,by omega,⟨j+1,_,by omega,rfl,⟨by rw [List.length_set]; exact hwl',fun q hq2 h=>?_⟩,hp⟩,sub_cons rfl (sub_cons rfl (sub_cons rfl (sub_cons rfl (sub_cons rfl sub_nil))))⟩
    rw [List.getElem?_set]
    by_cases hqe:i+1+j=q
    ·subst hqe
     rw [if_pos rfl,if_pos (by omega),show i+1+j - (i+1)=j by omega]
     simp
    ·rw [if_neg hqe,hws' q hq2 h]
     congr 3
     exact decide_eq_decide.2 (by omega)
   ·have hlt2:=of_decide_eq_false hlt2
    conv=>whnf
    clear hKq Kq
    refine hKq _ _ _ (.refl _) ?_
    clear hKq Kq
    conv=>whnf
    refine Or.inl (And.intro (by omega) ?_)
    conv=>whnf
    obtain rfl:j=32:=by omega
    refine ⟨m - 1,_,by omega,⟨i+1,ws',by omega,rfl,⟨hwl',fun q hq h=>?_⟩,hp⟩,sub_cons rfl (sub_cons rfl (sub_cons rfl (sub_cons rfl sub_nil)))⟩
    rw [hR',hws' q hq h,hbit,show q - (i+1)+1=q - i by omega,Bool.xor_assoc]
    congr 2
    rw [Bool.xor_comm (R.testBit 0),ht,Bool.true_and]
    by_cases h32:q - (i+1) < 32
    ·simp [h32]
    ·simp [h32,tb_high hC (show 32≤q - (i+1) by omega)]
  ·conv=>whnf
   refine hKq _ _ _ (.refl _) ?_
   clear hKq Kq
   conv=>whnf
   refine Or.inl (And.intro (by omega) ?_)
   conv=>whnf
   refine ⟨m - 1,_,by omega,⟨i+1,ws,by omega,rfl,⟨hwl,fun q hq h=>?_⟩,hp⟩,sub_cons rfl (sub_cons rfl (sub_cons rfl (sub_cons rfl sub_nil)))⟩
   rw [hR',hws q (by omega) h,hbit,show q - (i+1)+1=q - i by omega,Bool.xor_comm (R.testBit 0),ht,Bool.false_and,Bool.xor_false]
 ·have hlt:=of_decide_eq_false hlt
  conv=>whnf
  clear hKq Kq
  refine hKq _ _ _ (.refl _) ?_
  clear hKq Kq
  conv=>whnf
  refine VSeq.mk fun Kq hKq=>?_
  conv=>whnf
  obtain rfl:i=n:=by omega
  refine hp.kalloc z255 fun o w hp hx=>?_
  conv=>whnf
  refine hKq _ _ _ (.refl _) ?_
  clear hKq Kq
  conv=>whnf
  refine VSeq.mk fun Kq hKq=>?_
  conv=>whnf
  refine VSeq.mk fun Kq hKq=>?_
  conv=>whnf
  refine hKq _ _ _ (.refl _) ?_
  clear hKq Kq
  conv=>whnf
  clear hx
  have hcl2:=coefL_len (absB C X (raw.take i))
  have hcg2:=coefL_get (absB C X (raw.take i))
  generalize absB C X (raw.take i)=R at *
  generalize coefL R=cl at *
  have hL2:(bw cl).length=32:=by rw [bw_len,hcl2]
  refine ⟨fun m l w'=>∃ j:Nat,m+j=32∧l=[(4,.v (.pointer (some ⟨res,0,none⟩))),(6,.v (.slice (some ⟨wb,0,none⟩) (i+32) (i+32))),(9,.v (.pointer (some ⟨o,0,none⟩))),(10,.v (.int .i64 j))] ∧
    Hp _ w' [blk o ((bw cl).take j++List.replicate (32 - j) (.bool false)) 255,blk wb (bw ws) 4,blk po (bw (coefL C)) 255,blk res (List.replicate 32 (.bool false)) 255],
   ⟨32,_,⟨0,by omega,rfl,hp⟩,sub_cons rfl (sub_cons rfl (sub_cons rfl (sub_cons rfl sub_nil)))⟩,?_⟩
  clear hp
  repeat clear hp
  rintro m _ w ⟨j,hm,rfl,hp⟩
  conv=>whnf
  refine VSeq.mk fun Kq hKq=>?_
  conv=>whnf
  refine VSeq.mk fun Kq hKq=>?_
  conv=>whnf
  refine hKq _ _ _ (.refl _) ?_
  clear hKq Kq
  conv=>whnf
  refine ⟨fun hlt3=>?_,fun hlt3=>?_⟩
  ·have hlt3:=of_decide_eq_true hlt3
   conv=>whnf
   refine hKq _ _ _ (.refl _) ?_
   clear hKq Kq
   conv=>whnf
   refine VSeq.mk fun Kq hKq=>?_
   conv=>whnf
   refine Or.inl (And.intro (by omega) ?_)
   conv=>whnf
   refine Or.inl (And.intro (by omega) ?_)
   conv=>whnf
   have hq:=hws (i+j) (by omega) (by omega)
   rw [hz (i+j) (by omega) (by omega),Bool.false_xor,show i+j - i=j by omega] at hq
   have hgj:=hcg2 j (by omega)
   rw [show ((i+32:Nat):Int) - 32+(j:Int)=((i+j:Nat):Int) by omega]
   refine ⟨i+j,⟨by first | rfl | omega,by omega⟩,?_⟩
   conv=>whnf
   refine ⟨_,_,Blk.ld (hp.get (i:=1) rfl) TTok rfl (bw_get hq),?_⟩
   conv=>whnf
   refine ⟨j,⟨by first | rfl | omega,by omega⟩,?_⟩
   conv=>whnf
   refine hp.kst1 (off:=j) TTok (by rfl) 0 (by rfl) (by rfl) (by rfl) (by rw [List.length_append,List.length_take,List.length_replicate,hL2]; omega) fun w hp=>?_
   try simp only [List.set_cons_zero,List.set_cons_succ,EV.val] at hp
   conv=>whnf
   refine hKq _ _ _ (.refl _) ?_
   clear hKq Kq
   conv=>whnf
   refine Or.inl (And.intro (by omega) ?_)
   conv=>whnf
   rw [set_next (bw cl) _ (Value.bool false) j 32 (by omega) hL2 (bw_get hgj)] at hp
   exact ⟨m - 1,_,by omega,⟨j+1,by omega,rfl,hp⟩,sub_cons rfl (sub_cons rfl (sub_cons rfl (sub_cons rfl sub_nil)))⟩
  ·have hlt3:=of_decide_eq_false hlt3
   conv=>whnf
   clear hKq Kq
   refine hKq _ _ _ (.refl _) ?_
   clear hKq Kq
   conv=>whnf
   refine VSeq.mk fun Kq hKq=>?_
   conv=>whnf
   obtain rfl:j=32:=by omega
   have hbb:(bw cl).take 32++List.replicate (32 - 32) (Value.bool false)=bw cl:=by
    rw [List.take_of_length_le (by omega)]; simp
   rw [hbb] at hp
   refine ⟨_,_,Blk.ldN (hp.get (i:=0) rfl) TTok rfl (hL2),?_⟩
   conv=>whnf
   refine hp.kstA TTok rfl 3 rfl (hL2) (bw_one _) (List.length_replicate) fun w hp=>?_
   try simp only [List.set_cons_zero,List.set_cons_succ,EV.val] at hp
   conv=>whnf
   refine hKq _ _ _ (.refl _) ?_
   clear hKq Kq
   conv=>whnf
   exact ⟨_,Blk.lvN (hp.get (i:=3) rfl) TTok rfl hL2,rfl,hp.ext⟩
set_option maxHeartbeats 6400000

/-- .. of which j places are joined -/
def mix6J (raw:List Bool) (X j:Nat):List Bool:=raw.mapIdx fun q b=>if q < j then (b ^^ X.testBit q) else b
theorem mixJ_len (raw:List Bool) (X j:Nat):(mix6J raw X j).length=raw.length:=by simp [mix6J]
theorem mixJ_zero (raw:List Bool) (X:Nat):mix6J raw X 0=raw:=by
 apply List.ext_getElem
 ·simp [mix6J]
 intro i h1 h2
 simp [mix6J]
theorem mixJ_get (raw:List Bool) (X j:Nat) (h:j < raw.length):(mix6J raw X j)[j]? = some raw[j]:=by simp [mix6J,h]
theorem mixJ_set (raw:List Bool) (X j:Nat) (h:j < raw.length):(mix6J raw X j).set j (raw[j] ^^ X.testBit j)=mix6J raw X (j+1):=by
 apply List.ext_getElem
 ·simp [mix6J]
 intro q h1 h2
 rw [List.getElem_set]
 simp only [mix6J,List.getElem_mapIdx]
 by_cases e:j=q
 ·subst e; simp
 ·rw [if_neg e]
  by_cases hq:q < j
  ·rw [if_pos hq,if_pos (by omega)]
  ·rw [if_neg hq,if_neg (by omega)]
theorem mixJ_all (raw:List Bool) (X:Nat) (hX:X < 4294967296):mix6J raw X 32=mixX raw X:=by
 apply List.ext_getElem
 ·simp [mix6J,mixX]
 intro q h1 h2
 simp only [mix6J,mixX,List.getElem_mapIdx]
 by_cases hq:q < 32
 ·rw [if_pos hq]
 ·rw [if_neg hq,tb_high hX (by omega),Bool.xor_false]
theorem rMore_p (k c:Nat) (s:ByteArray) (hk:Kd k) (hc:c < 4294967296) (hs:s.size≤5000):PureF Tryz.prog 161 #[.int .i64 k,.int .i64 c,.string s] (.int .i64 (crcL k c s.data.toList:Nat)):=by
 have hC:=crcC_lt k
 have hsl:=toList_len s
 have hbl:=bitsL_len s.data.toList
 have hX:4294967295 - c < 4294967296:=by omega
 obtain ⟨X,hXe⟩:∃ X,4294967295 - c=X:=⟨_,rfl⟩
 have hcr:crcL k c s.data.toList=4294967295 - absB (crcC k) X (bitsL s.data.toList):=by rw [absB_bits,← hXe]; rfl
 have hRl:=absB_lt hC (bitsL s.data.toList) (hXe ▸ hX:X < 4294967296)
 rw [hXe] at hX
 obtain ⟨raw,hraw⟩:∃ raw,bitsL s.data.toList++List.replicate 32 false=raw:=⟨_,rfl⟩
 have hrl:raw.length=8 * s.size+32:=by rw [← hraw,List.length_append,hbl,hsl,List.length_replicate]
 have hz:∀ q,8 * s.size≤q→(h:q < raw.length)→raw[q]=false:=fun q hq h=>by
  subst hraw
  rw [List.getElem_append_right (by rw [hbl,hsl]; exact hq),List.getElem_replicate]
 have htk:raw.take (8 * s.size)=bitsL s.data.toList:=by rw [← hraw,List.take_append_of_le_length (by omega),List.take_of_length_le (by omega)]
 have hcg:=coefL_get X
 have hcl:=coefL_len X
 first | refine v_pure TTok FFok Tryz.func161 rfl rfl fun w0=>?_ | refine v_pure (args:=[]) TTok FFok Tryz.func161 rfl rfl fun w0=>?_
 conv=>whnf
 refine VSeq.mk fun Kq hKq=>?_
 conv=>whnf
 refine hKq _ _ _ (.refl _) ?_
 clear hKq Kq
 conv=>whnf
 refine VSeq.mk fun Kq hKq=>?_
 conv=>whnf
 have hp:=Hp.nil w0
 refine MakesF.use (bits_f s hs) hp fun v w hp hx=>?_
 simp only [List.cons_append,List.nil_append] at hp
 conv=>whnf
 refine hp.kappZ (m:=32) sl251 z4 rfl 0 rfl (tab_int TTok rfl) (by omega) (by unfold maxLen; omega) (by omega) fun g gc w hp=>?_
 simp only [List.set_cons_zero] at hp
 have e0:bw (bitsL s.data.toList)++List.replicate 32 (Value.bool false)=bw (mix6J raw X 0):=by rw [mixJ_zero,← hraw]; simp [bw]
 rw [e0] at hp
 obtain ⟨zs,hp⟩:=hp.toBlk 0 rfl
 simp only [List.set_cons_zero] at hp
 clear e0 hx
 conv=>whnf
 refine hKq _ _ _ (.refl _) ?_
 clear hKq Kq
 conv=>whnf
 refine VSeq.mk fun Kq hKq=>?_
 conv=>whnf
 refine Or.inl (And.intro (by omega) ?_)
 conv=>whnf
 rw [show (4294967295:Int) - (c:Int)=(X:Nat) by omega]
 refine MakesF.use (coef_f X hX) hp fun v2 w hp hx=>?_
 simp only [List.cons_append,List.nil_append] at hp
 conv=>whnf
 refine hKq _ _ _ (.refl _) ?_
 clear hKq Kq
 conv=>whnf
 refine VSeq.mk fun Kq hKq=>?_
 conv=>whnf
 refine VSeq.mk fun Kq hKq=>?_
 conv=>whnf
 refine hKq _ _ _ (.refl _) ?_
 clear hKq Kq
 conv=>whnf
 obtain ⟨g2,gc2,zs2,rfl,hp⟩:=hp.toBlk0 0 rfl (by omega)
 simp only [List.set_cons_zero] at hp
 refine ⟨fun m l w=>∃ j:Nat,m+j=32∧l=[(0,.v (.int .i64 k)),(7,.v (.slice (some ⟨g,0,none⟩) (8 * s.size+32) gc)),(8,.v (.slice (some ⟨g2,0,none⟩) 32 gc2)),(9,.v (.int .i64 j))] ∧
   Hp w0 w [blk g2 (bw (coefL X)++zs2) 4,blk g (bw (mix6J raw X j)++zs) 4],
  ⟨32,_,⟨0,by omega,rfl,hp⟩,sub_cons rfl (sub_cons rfl (sub_cons rfl (sub_cons rfl sub_nil)))⟩,?_⟩
 clear hp hx
 repeat clear hp
 rintro m _ w ⟨j,hm,rfl,hp⟩
 conv=>whnf
 refine VSeq.mk fun Kq hKq=>?_
 conv=>whnf
 refine VSeq.mk fun Kq hKq=>?_
 conv=>whnf
 refine hKq _ _ _ (.refl _) ?_
 clear hKq Kq
 conv=>whnf
 refine ⟨fun hlt=>?_,fun hlt=>?_⟩
 ·have hlt:=of_decide_eq_true hlt
  conv=>whnf
  refine hKq _ _ _ (.refl _) ?_
  clear hKq Kq
  conv=>whnf
  refine VSeq.mk fun Kq hKq=>?_
  conv=>whnf
  have hj:j < raw.length:=by omega
  have hg1:=mixJ_get raw X j hj
  have hst:=mixJ_set raw X j hj
  have hml:=mixJ_len raw X j
  have hg2:=hcg j (by omega)
  generalize raw[j]=b at *
  generalize X.testBit j=d at *
  refine v_mix TTok FFok mixed 12 [(0,false),(1,false),(2,false),(3,false),(4,false),(5,false),(6,false),(7,false),(8,false),(9,false),(10,false),(11,false)] (by kernel_rfl) ?_
  conv=>whnf
  refine ⟨j,⟨by first | rfl | omega,by omega⟩,?_⟩
  conv=>whnf
  refine ⟨_,fun w' hx'=>Blk.ld (Blk.ext (hp.get (i:=1) rfl) hx') TTok rfl (app_get (bw_get hg1)),?_⟩
  conv=>whnf
  refine ⟨j,⟨by first | rfl | omega,by omega⟩,?_⟩
  conv=>whnf
  refine ⟨_,fun w' hx'=>Blk.ld (Blk.ext (hp.get (i:=0) rfl) hx') TTok rfl (app_get (bw_get hg2)),?_⟩
  conv=>whnf
  refine ⟨_,fun w1 _=>neq_bool _ _ _ _ w1,?_⟩
  conv=>whnf
  refine ⟨j,⟨by first | rfl | omega,by omega⟩,?_⟩
  conv=>whnf
  intro w hx
  try (have hp:=hp.call hx)
  conv=>whnf
  refine hp.kst1 (off:=j) TTok (by rfl) 1 (by rfl) (by rfl) (by rfl) (by rw [List.length_append,bw_len,hml]; omega) fun w hp=>?_
  try simp only [List.set_cons_zero,List.set_cons_succ,EV.val] at hp
  conv=>whnf
  refine hKq _ _ _ (.refl _) ?_
  clear hKq Kq
  conv=>whnf
  refine Or.inl (And.intro (by omega) ?_)
  conv=>whnf
  rw [app_set _ _ _ _ (by rw [bw_len,hml]; exact hj),bw_set,hst] at hp
  exact ⟨m - 1,_,by omega,⟨j+1,by omega,rfl,hp⟩,sub_cons rfl (sub_cons rfl (sub_cons rfl (sub_cons rfl sub_nil)))⟩
 ·have hlt:=of_decide_eq_false hlt
  conv=>whnf
  clear hKq Kq
  refine hKq _ _ _ (.refl _) ?_
  clear hKq Kq
  conv=>whnf
  refine VSeq.mk fun Kq hKq=>?_
  conv=>whnf
  obtain rfl:j=32:=by omega
  rw [mixJ_all raw X hX] at hp
  refine V.CallsUse (rest_c k hk raw X hX hrl (by omega) hz (hp.get (i:=1) rfl)) fun w hx=>?_
  try (have hp:=hp.call hx)
  conv=>whnf
  rw [htk]
  refine PureF.use (number6_p _ hRl) fun w hx=>?_
  try (have hp:=hp.call hx)
  conv=>whnf
  refine Or.inl (And.intro (by omega) ?_)
  conv=>whnf
  refine hKq _ _ _ (.refl _) ?_
  clear hKq Kq
  conv=>whnf
  have e:(4294967295:Int) - (absB (crcC k) X (bitsL s.data.toList):Nat)=(crcL k c s.data.toList:Nat):=by rw [hcr]; omega
  exact ⟨by rw [← e]; rfl,hp.ext⟩
theorem rCrc_p (k:Nat) (s:ByteArray) (hk:Kd k) (hs:s.size≤5000):PureF Tryz.prog 134 #[.int .i64 k,.string s] (.int .i64 (crcL k 0 s.data.toList:Nat)):=by
 first | refine v_pure TTok FFok Tryz.func134 rfl rfl fun w0=>?_ | refine v_pure (args:=[]) TTok FFok Tryz.func134 rfl rfl fun w0=>?_
 conv=>whnf
 refine VSeq.mk fun Kq hKq=>?_
 conv=>whnf
 refine hKq _ _ _ (.refl _) ?_
 clear hKq Kq
 conv=>whnf
 refine VSeq.mk fun Kq hKq=>?_
 conv=>whnf
 refine PureF.use (rMore_p k 0 s hk (by decide) hs) fun w hx=>?_
 try (have hp:=hp.call hx)
 conv=>whnf
 refine hKq _ _ _ (.refl _) ?_
 clear hKq Kq
 conv=>whnf
 exact ⟨rfl,hx⟩
set_option maxHeartbeats 12800000
theorem xor_beB (x y:Nat):xorB (beB 4 x) (beB 4 y)=beB 4 (x ^^^ y):=by
 unfold xorB beB
 congr 2
 show xorL (beL 4 x) (beL 4 y)=beL 4 (x ^^^ y)
 unfold xorL beL
 have e:List.range 4=[0,1,2,3]:=rfl
 rw [List.zipWith_map,e]
 simp only [List.zipWith_cons_cons,List.zipWith_nil_left,List.map_cons,List.map_nil,Nat.xor_div_two_pow,UInt8.ofNat_xor]
theorem SA.hi8 {w:World} {v:Value} {al:List At2} (h:SA w v al) (i:Nat) (hi:i≤al.length) :
  ∃ v',(∀ (k:IntKind) (w':World),(Instr.sliceAt 22 v none (some (.int k (i:Int))) none).run Tryz.prog w' = .ok v' w')∧SA w v' (al.take i):=by
 obtain ⟨t,h1,h2⟩:=SLn_hi8 TTok (t:=22) rfl rfl h i (by rw [List.length_map]; exact hi)
 rw [← List.map_take] at h2
 exact ⟨t,h1,h2⟩
theorem With8_c {W:World} {v:Value} {al:List At2} (c m:Int) (id:ByteArray) (k:Int) (s:ByteArray) (hv:SA W v al) (hl:al.length≤100000) :
  Calls Tryz.prog 101 #[.agg #[.int .i64 c,.int .i64 m,.string id,v],.int .i64 k,.string s] W fun e w'=>∃ r,e = .returned r∧∃ v',r = .agg #[.int .i64 c,.int .i64 m,.string id,v']∧HpM [] W w' [row 54 2 v' (al++[(k,s)]).length (flatC (al++[(k,s)]))]:=by
 obtain ⟨p,cp,rfl⟩:=hv.shape
 refine v_fn (args:=[.agg #[.int .i64 c,.int .i64 m,.string id,.slice p al.length cp],.int .i64 k,.string s]) TTok FFok Tryz.func101 rfl (Nat.le_of_ble_eq_true rfl) ?_
 conv=>whnf
 refine VSeq.mk fun Kq hKq=>?_
 conv=>whnf
 have hp:=Hp.nil W
 refine hp.kboxA fun q3 w hp hx=>?_
 conv=>whnf
 refine hp.kalloc z24 fun q4 w hp hx=>?_
 conv=>whnf
 refine hKq _ _ _ (.refl _) ?_
 clear hKq Kq
 conv=>whnf
 refine VSeq.mk fun Kq hKq=>?_
 conv=>whnf
 refine hKq _ _ _ (.refl _) ?_
 clear hKq Kq
 conv=>whnf
 refine VSeq.mk fun Kq hKq=>?_
 conv=>whnf
 have hp:=hp.knil 54 2
 conv=>whnf
 refine ⟨_,_,Blk.ld (hp.get (i:=2) rfl) TTok rfl (rfl),?_⟩
 conv=>whnf
 refine hp.kapp sl22 0 rfl ((hv.ext hp.ext).src) (by omega) (by unfold maxLen; omega) fun v' w hp=>?_
 simp only [List.set_cons_zero,List.set_cons_succ] at hp
 rw [Nat.zero_add,List.nil_append] at hp
 obtain ⟨p1,c1,rfl⟩:=row_shape (hp.get (i:=0) rfl)
 conv=>whnf
 (refine ⟨_,_,bld54_0_1 _ _ _,?_⟩; conv=>whnf)
 (refine hp.kmade _ _ (fun b=>.slice (some ⟨b,0,none⟩) 1 1) (mks22_1_0 _ _ _) fun q w hp hx=>?_; conv=>whnf)
 refine hp.kapp sl22 1 rfl (Blk.src TTok (hp.get (i:=0) rfl) rfl (m:=1) rfl (oneC_of rfl)) (by omega) (by unfold maxLen; omega) fun v2 w hp=>?_
 simp only [List.set_cons_zero,List.set_cons_succ] at hp
 have hp:HpM [] W w [row 54 2 v2 (al++[(k,s)]).length (flatC (al++[(k,s)])),blk q4 [.int .i64 0,.int .i64 0,.string ⟨#[]⟩,.slice none 0 0] 24,blk q3 [.int .i64 c,.int .i64 m,.string id,.slice p al.length cp] 24]:=by
  rw [List.length_append,flatC_app]
  exact hp.pick [1,2,3] (by decide)
 obtain ⟨p1,c1,rfl⟩:=row_shape (hp.get (i:=0) rfl)
 conv=>whnf
 refine hKq _ _ _ (.refl _) ?_
 clear hKq Kq
 conv=>whnf
 refine VSeq.mk fun Kq hKq=>?_
 conv=>whnf
 (refine hp.kst1 TTok (by rfl) 2 (by rfl) (by rfl) (by rfl) (Nat.le_of_ble_eq_true rfl) fun w hp=>?_; try simp only [List.set_cons_zero,List.set_cons_succ,EV.val] at hp; conv=>whnf)
 (refine hKq _ _ _ (.refl _) ?_; clear hKq Kq; conv=>whnf)
 (refine VSeq.mk fun Kq hKq=>?_; conv=>whnf)
 (refine ⟨_,_,Blk.ldV (vs:=[_,_,_,_]) (hp.get (i:=2) rfl) TTok rfl rfl rfl,?_⟩; conv=>whnf)
 (refine hp.kstA TTok rfl 1 rfl rfl (oneC_of rfl) (by rfl) fun w hp=>?_; try simp only [List.set_cons_zero,List.set_cons_succ,EV.val] at hp; conv=>whnf)
 (refine hKq _ _ _ (.refl _) ?_; clear hKq Kq; conv=>whnf)
 (refine ⟨_,Blk.lvN (hp.get (i:=1) rfl) TTok rfl rfl,?_⟩; conv=>whnf)
 exact ⟨_,rfl,hp.sub (List.Sublist.cons_cons _ (List.nil_sublist _))⟩
set_option maxHeartbeats 12800000
theorem Integ8_c {W:World} {v tS tK:Value} {al:List At2} (c m:Nat) (id key:ByteArray) (i:Nat) (hv:SA W v al) (hS:SLv W tS (kw .i64 SL)) (hK:SLv W tK (kw .i64 KL)) (hb:stunB c m id al=true) (hi:i≤al.length) (hk:key.size≤50000) :
  Calls Tryz.prog 102 #[.agg #[tS,tK],.agg #[.int .i64 c,.int .i64 m,.string id,v],.int .i64 i,.string key] W fun e w'=>e = .returned (.string (macB key (wrB c m id (al.take i) 36)))∧Ext W w':=by
 obtain ⟨b1,b2,b3,b4,b5,b6,b7,b8⟩:=stunB_t hb
 obtain ⟨p,cp,rfl⟩:=hv.shape
 obtain ⟨pS,cS,rfl⟩:=hS.shape
 obtain ⟨pK,cK,rfl⟩:=hK.shape
 have hzt:=sizeN_tk al i
 have hzw:=wrB_size c m id (al.take i) 36
 obtain ⟨u,hsl,ht⟩:=SA.hi8 hv i hi
 have hw:=fun {w:World} (hx:Ext W w)=>written8_c (W:=w) (ht.ext hx) c m id 36 (mv:=.slice p al.length cp) ⟨_,_,_,rfl⟩ (by omega) (by omega) (by omega) (fun a ha=>b7 a (List.mem_of_mem_take ha)) (by rw [List.length_take]; omega) (by omega)
 have hm:∀ {w:World},Ext W w→Calls Tryz.prog 133 #[.agg #[.slice pS (kw .i64 SL).length cS,.slice pK (kw .i64 KL).length cK],.string key,.string (wrB c m id (al.take i) 36)] w fun e w'=>e = .returned (.string (macB key (wrB c m id (al.take i) 36)))∧Ext w w':=fun {w} hx=>(rMac_c (W:=w) key (wrB c m id (al.take i) 36) (hS.ext hx) (hK.ext hx) hk (by omega)).mono fun _ _ ⟨v,h1,h2,h3⟩=>⟨h1.trans (congrArg _ h2),h3⟩
 generalize wrB c m id (al.take i) 36=S at hw hm ⊢
 refine v_reads (args:=[.agg #[.slice pS (kw .i64 SL).length cS,.slice pK (kw .i64 KL).length cK],.agg #[.int .i64 c,.int .i64 m,.string id,.slice p al.length cp],.int .i64 i,.string key]) TTok FFok Tryz.func102 rfl rfl ?_
 conv=>whnf
 refine VSeq.mk fun Kq hKq=>?_
 conv=>whnf
 have hp:=Hp.nil W
 refine hp.kboxA fun q w hp hx=>?_
 conv=>whnf
 refine hp.kboxA fun q2 w hp hx=>?_
 conv=>whnf
 refine hKq _ _ _ (.refl _) ?_
 clear hKq Kq
 conv=>whnf
 refine VSeq.mk fun Kq hKq=>?_
 conv=>whnf
 refine v_mixA TTok FFok mixed [(0,false),(1,false),(2,false),(3,false),(4,false),(5,false),(6,false),(7,false),(8,false),(9,false)] (by kernel_rfl) ?_
 conv=>whnf
 refine ⟨_,fun w' hx'=>Blk.ldN (Blk.ext (hp.get (i:=1) rfl) hx') TTok rfl (rfl),?_⟩
 conv=>whnf
 (refine ⟨_,fun w' hx'=>Blk.ldV (vs:=[_,_,_,_]) (Blk.ext (hp.get (i:=0) rfl) hx') TTok rfl rfl rfl,?_⟩; conv=>whnf)
 (refine ⟨_,fun w' hx'=>Blk.ld (Blk.ext (hp.get (i:=0) rfl) hx') TTok rfl rfl,?_⟩; conv=>whnf)
 refine ⟨_,fun w1 _=>hsl _ w1,?_⟩
 conv=>whnf
 refine ⟨_,fun w1 hx1=>hw (hp.ext.trans hx1),?_⟩
 conv=>whnf
 refine ⟨_,fun w1 hx1=>hm (hp.ext.trans hx1),?_⟩
 conv=>whnf
 intro w hx
 try (have hp:=hp.call hx)
 conv=>whnf
 refine hKq _ _ _ (.refl _) ?_
 clear hKq Kq
 conv=>whnf
 exact ⟨rfl,hp.ext⟩
set_option maxHeartbeats 12800000
theorem Finger8_c {W:World} {v:Value} {al:List At2} (c m:Nat) (id:ByteArray) (i:Nat) (hv:SA W v al) (hb:stunB c m id al=true) (hi:i≤al.length) :
  Calls Tryz.prog 103 #[.agg #[.int .i64 c,.int .i64 m,.string id,v],.int .i64 i] W fun e w'=>e = .returned (.string (fpB (wrB c m id (al.take i) 8)))∧Ext W w':=by
 obtain ⟨b1,b2,b3,b4,b5,b6,b7,b8⟩:=stunB_t hb
 obtain ⟨p,cp,rfl⟩:=hv.shape
 have hzt:=sizeN_tk al i
 have hzw:=wrB_size c m id (al.take i) 8
 obtain ⟨u,hsl,ht⟩:=SA.hi8 hv i hi
 have hw:=fun {w:World} (hx:Ext W w)=>written8_c (W:=w) (ht.ext hx) c m id 8 (mv:=.slice p al.length cp) ⟨_,_,_,rfl⟩ (by omega) (by omega) (by omega) (fun a ha=>b7 a (List.mem_of_mem_take ha)) (by rw [List.length_take]; omega) (by omega)
 obtain ⟨S,hS⟩:∃ S,wrB c m id (al.take i) 8=S:=⟨_,rfl⟩
 rw [hS] at hw hzw ⊢
 have hc:=rCrc_p 1 S (.inl rfl) (by omega)
 have hlt:=crcL_lt 1 0 S.data.toList
 have hF:fpB S=beB 4 (crcL 1 0 S.data.toList ^^^ 1398035790):=rfl
 rw [hF,← xor_beB]
 generalize crcL 1 0 S.data.toList=x at hc hlt ⊢
 have p1:=put_p 4 x (by decide) (by omega)
 have p2:=put_p 4 1398035790 (by decide) (by decide)
 have p3:=xor8_p (beB 4 x) (beB 4 1398035790) (by rw [beB_size,beB_size]; exact Nat.le_refl _) (by rw [beB_size]; decide)
 refine v_reads (args:=[.agg #[.int .i64 c,.int .i64 m,.string id,.slice p al.length cp],.int .i64 i]) TTok FFok Tryz.func103 rfl rfl ?_
 conv=>whnf
 refine VSeq.mk fun Kq hKq=>?_
 conv=>whnf
 have hp:=Hp.nil W
 refine hp.kboxA fun q w hp hx=>?_
 conv=>whnf
 refine hKq _ _ _ (.refl _) ?_
 clear hKq Kq
 conv=>whnf
 refine VSeq.mk fun Kq hKq=>?_
 conv=>whnf
 refine v_mixA TTok FFok mixed [(0,false),(1,false),(2,false),(3,false),(4,false),(5,false),(6,false),(7,false),(8,false),(9,false),(10,false)] (by kernel_rfl) ?_
 conv=>whnf
 (refine ⟨_,fun w' hx'=>Blk.ldV (vs:=[_,_,_,_]) (Blk.ext (hp.get (i:=0) rfl) hx') TTok rfl rfl rfl,?_⟩; conv=>whnf)
 (refine ⟨_,fun w' hx'=>Blk.ld (Blk.ext (hp.get (i:=0) rfl) hx') TTok rfl rfl,?_⟩; conv=>whnf)
 refine ⟨_,fun w1 _=>hsl _ w1,?_⟩
 conv=>whnf
 refine ⟨_,fun w1 hx1=>hw (hp.ext.trans hx1),?_⟩
 conv=>whnf
 first | refine PureF.quiet (hc) ?_ | refine PureF.quietE (hc) ?_
 conv=>whnf
 first | refine PureF.quiet (p1) ?_ | refine PureF.quietE (p1) ?_
 conv=>whnf
 first | refine PureF.quiet (p2) ?_ | refine PureF.quietE (p2) ?_
 conv=>whnf
 first | refine PureF.quiet (p3) ?_ | refine PureF.quietE (p3) ?_
 conv=>whnf
 intro w hx
 try (have hp:=hp.call hx)
 conv=>whnf
 refine hKq _ _ _ (.refl _) ?_
 clear hKq Kq
 conv=>whnf
 exact ⟨rfl,hp.ext⟩
set_option maxHeartbeats 12800000
theorem Verify8_c {W:World} {v tS tK:Value} {al:List At2} (c m:Int) (id key:ByteArray) (hv:SA W v al) (hS:SLv W tS (kw .i64 SL)) (hK:SLv W tK (kw .i64 KL)) :
  Calls Tryz.prog 53 #[.agg #[tS,tK],.agg #[.int .i64 c,.int .i64 m,.string id,v],.string key] W fun e w'=>e = .returned (.int .i64 (verC c m id key al))∧Ext W w':=by
 obtain ⟨p,cp,rfl⟩:=hv.shape
 obtain ⟨pS,cS,rfl⟩:=hS.shape
 obtain ⟨pK,cK,rfl⟩:=hK.shape
 have hml:=hv.len
 refine v_reads (args:=[.agg #[.slice pS (kw .i64 SL).length cS,.slice pK (kw .i64 KL).length cK],.agg #[.int .i64 c,.int .i64 m,.string id,.slice p al.length cp],.string key]) TTok FFok Tryz.func53 rfl rfl ?_
 conv=>whnf
 refine VSeq.mk fun Kq hKq=>?_
 conv=>whnf
 have hp:=Hp.nil W
 refine hp.kboxA fun q3 w hp hx=>?_
 conv=>whnf
 refine hp.kboxA fun q4 w hp hx=>?_
 conv=>whnf
 refine hKq _ _ _ (.refl _) ?_
 clear hKq Kq
 conv=>whnf
 refine VSeq.mk fun Kq hKq=>?_
 conv=>whnf
 refine VSeq.mk fun Kq hKq=>?_
 conv=>whnf
 have cR:=fun {w:World} (hx:Ext W w)=>right8_c (W:=w) c m id (hv.ext hx)
 by_cases hb:stunB c m id al=true
 ·rw [hb] at cR
  (refine ⟨_,_,Blk.ldV (vs:=[_,_,_,_]) (hp.get (i:=0) rfl) TTok rfl rfl rfl,?_⟩; conv=>whnf)
  refine V.CallsUse (cR hp.ext) fun w hx=>?_
  try (have hp:=hp.call hx)
  conv=>whnf
  refine hKq _ _ _ (.refl _) ?_
  clear hKq Kq
  conv=>whnf
  (refine And.intro (fun h=>absurd h (by decide)) (fun _=>?_); conv=>whnf)
  (refine VSeq.mk fun Kq hKq=>?_; conv=>whnf)
  (refine hKq _ _ _ (.refl _) ?_; clear hKq Kq; conv=>whnf)
  refine ⟨fun hk=>?_,fun hk=>?_⟩
  ·have hk:=of_decide_eq_true hk
   conv=>whnf
   refine VSeq.mk fun Kq hKq=>?_
   conv=>whnf
   refine hKq _ _ _ (.refl _) ?_
   clear hKq Kq
   conv=>whnf
   have hF:verC c m id key al=3:=by unfold verC; rw [if_pos hb,if_pos (by omega)]
   (exact ⟨by (first | (rw [hF]; rfl) | fail),hp.ext⟩)
  ·have hk:=of_decide_eq_false hk
   conv=>whnf
   refine VSeq.mk fun Kq hKq=>?_
   conv=>whnf
   (refine ⟨_,_,Blk.ldV (vs:=[_,_,_,_]) (hp.get (i:=0) rfl) TTok rfl rfl rfl,?_⟩; conv=>whnf)
   have cI:=fun {w:World} (hx:Ext W w)=>first8_c (W:=w) c m id 8 (hv.ext hx)
   cases hI:al.findIdx? (kindB 8) with
   | none =>
    have hI1:idxI 8 al = -1:=by unfold idxI; rw [hI]
    have hF:verC c m id key al=4:=by unfold verC; rw [if_pos hb,if_neg (by omega),hI]
    rw [hI1] at cI
    refine V.CallsUse (cI hp.ext) fun w hx=>?_
    try (have hp:=hp.call hx)
    conv=>whnf
    refine hKq _ _ _ (.refl _) ?_
    clear hKq Kq
    conv=>whnf
    (refine And.intro (fun _=>?_) (fun h=>absurd (by first | rfl | assumption | omega | decide) (of_decide_eq_false h)); conv=>whnf)
    (refine VSeq.mk fun Kq hKq=>?_; conv=>whnf)
    (refine hKq _ _ _ (.refl _) ?_; clear hKq Kq; conv=>whnf)
    (exact ⟨by (first | (rw [hF]; rfl) | fail),hp.ext⟩)
   | some i =>
    have hI1:idxI 8 al=(i:Nat):=by unfold idxI; rw [hI]
    obtain ⟨hi,h2,h3⟩:=List.findIdx?_eq_some_iff_getElem.1 hI
    have hat:al[i]? = some al[i]:=List.getElem?_eq_getElem hi
    have hFA:findA 8 al=some al[i].2:=by
     unfold findA
     rw [List.find?_eq_some_iff_getElem.2 ⟨h2,i,hi,rfl,fun j hj=>by have:=h3 j hj; revert this; cases kindB 8 (al[j]'(by omega)) <;> simp⟩]
     rfl
    have hF:verC c m id key al=if al[i].2=macB key (wrB c.toNat m.toNat id (al.take i) 36) then 0 else 9:=by
     unfold verC
     rw [if_pos hb,if_neg (by omega),hI]
     dsimp only
     rw [hFA]
     simp only [Option.some.injEq]
    rw [hI1] at cI
    obtain ⟨C,rfl⟩:=Int.eq_ofNat_of_zero_le (stunB_t hb).1
    obtain ⟨M,rfl⟩:=Int.eq_ofNat_of_zero_le (stunB_t hb).2.2.1
    rw [Int.toNat_natCast,Int.toNat_natCast] at hF
    have cM:=fun {w:World} (hx:Ext W w)=>Integ8_c (W:=w) C M id key i (hv.ext hx) (hS.ext hx) (hK.ext hx) hb (by omega) (by omega)
    obtain ⟨X,hX⟩:∃ X,macB key (wrB C M id (List.take i al) 36)=X:=⟨_,rfl⟩
    rw [hX] at hF cM
    obtain ⟨g,off,rfl,-⟩:=hv.at1 hat
    have hl1:=fun {w:World} (hx:Ext W w)=>SA.ld1 (hv.ext hx) hat
    refine V.CallsUse (cI hp.ext) fun w hx=>?_
    try (have hp:=hp.call hx)
    conv=>whnf
    refine hKq _ _ _ (.refl _) ?_
    clear hKq Kq
    conv=>whnf
    (refine And.intro (fun h=>absurd (of_decide_eq_true h) (by first | (intro h2; exact absurd rfl h2) | omega | decide)) (fun _=>?_); conv=>whnf)
    (refine VSeq.mk fun Kq hKq=>?_; conv=>whnf)
    refine v_mixA TTok FFok mixed [(0,false),(1,false),(2,false),(3,false),(4,false),(5,false),(6,false),(7,false),(8,false),(9,false),(10,false),(11,false),(12,false),(13,false),(14,false)] (by kernel_rfl) ?_
    conv=>whnf
    (refine ⟨_,fun w' hx'=>Blk.ld (Blk.ext (hp.get (i:=0) rfl) hx') TTok rfl rfl,?_⟩; conv=>whnf)
    (refine ⟨_,fun w' hx'=>Blk.ldV (vs:=[_,_,_,_]) (Blk.ext (hp.get (i:=0) rfl) hx') TTok rfl rfl rfl,?_⟩; conv=>whnf)
    refine ⟨_,fun w1 hx1=>cI (hp.ext.trans hx1),?_⟩
    conv=>whnf
    refine ⟨i,⟨by first | rfl | omega,by omega⟩,?_⟩
    conv=>whnf
    refine ⟨_,fun w1 hx1=>hl1 (hp.ext.trans hx1),?_⟩
    conv=>whnf
    (refine ⟨_,fun w' hx'=>Blk.ldV (vs:=[_,_]) (Blk.ext (hp.get (i:=1) rfl) hx') TTok rfl rfl rfl,?_⟩; conv=>whnf)
    (refine ⟨_,fun w' hx'=>Blk.ldV (vs:=[_,_,_,_]) (Blk.ext (hp.get (i:=0) rfl) hx') TTok rfl rfl rfl,?_⟩; conv=>whnf)
    (refine ⟨_,fun w' hx'=>Blk.ldV (vs:=[_,_,_,_]) (Blk.ext (hp.get (i:=0) rfl) hx') TTok rfl rfl rfl,?_⟩; conv=>whnf)
    refine ⟨_,fun w1 hx1=>cI (hp.ext.trans hx1),?_⟩
    conv=>whnf
    skip
    refine ⟨_,fun w1 hx1=>cM (hp.ext.trans hx1),?_⟩
    conv=>whnf
    intro w hx
    try (have hp:=hp.call hx)
    conv=>whnf
    refine hKq _ _ _ (.refl _) ?_
    clear hKq Kq
    conv=>whnf
    refine ⟨fun hr=>?_,fun hr=>?_⟩
    ·have hr:=of_decide_eq_true hr
     conv=>whnf
     refine VSeq.mk fun Kq hKq=>?_
     conv=>whnf
     refine hKq _ _ _ (.refl _) ?_
     clear hKq Kq
     conv=>whnf
     (exact ⟨by (first | (rw [hF,if_neg hr]; rfl) | fail),hp.ext⟩)
    ·have hr:=of_decide_eq_false hr
     conv=>whnf
     refine hKq _ _ _ (.refl _) ?_
     clear hKq Kq
     conv=>whnf
     refine VSeq.mk fun Kq hKq=>?_
     conv=>whnf
     refine hKq _ _ _ (.refl _) ?_
     clear hKq Kq
     conv=>whnf
     have hr:al[i].2=X:=Decidable.not_not.1 hr
     (exact ⟨by (first | (rw [hF,if_pos hr]; rfl) | fail),hp.ext⟩)
 ·have hF:verC c m id key al=80:=by unfold verC; rw [if_neg hb]
  rw [show stunB c m id al=false by simpa using hb] at cR
  (refine ⟨_,_,Blk.ldV (vs:=[_,_,_,_]) (hp.get (i:=0) rfl) TTok rfl rfl rfl,?_⟩; conv=>whnf)
  refine V.CallsUse (cR hp.ext) fun w hx=>?_
  try (have hp:=hp.call hx)
  conv=>whnf
  refine hKq _ _ _ (.refl _) ?_
  clear hKq Kq
  conv=>whnf
  (refine And.intro (fun _=>?_) (fun h=>absurd h (by decide)); conv=>whnf)
  (refine VSeq.mk fun Kq hKq=>?_; conv=>whnf)
  (refine hKq _ _ _ (.refl _) ?_; clear hKq Kq; conv=>whnf)
  (exact ⟨by (first | (rw [hF]; rfl) | fail),hp.ext⟩)
theorem Marked8_c {W:World} {v:Value} {al:List At2} (c m:Int) (id:ByteArray) (hv:SA W v al) :
  Calls Tryz.prog 54 #[.agg #[.int .i64 c,.int .i64 m,.string id,v]] W fun e w'=>e = .returned (.int .i64 (markC c m id al))∧Ext W w':=by
 obtain ⟨p,cp,rfl⟩:=hv.shape
 have hml:=hv.len
 refine v_reads (args:=[.agg #[.int .i64 c,.int .i64 m,.string id,.slice p al.length cp]]) TTok FFok Tryz.func54 rfl rfl ?_
 conv=>whnf
 refine VSeq.mk fun Kq hKq=>?_
 conv=>whnf
 have hp:=Hp.nil W
 refine hp.kboxA fun q1 w hp hx=>?_
 conv=>whnf
 refine hKq _ _ _ (.refl _) ?_
 clear hKq Kq
 conv=>whnf
 refine VSeq.mk fun Kq hKq=>?_
 conv=>whnf
 have cR:=fun {w:World} (hx:Ext W w)=>right8_c (W:=w) c m id (hv.ext hx)
 by_cases hb:stunB c m id al=true
 ·rw [hb] at cR
  (refine ⟨_,_,Blk.ld (hp.get (i:=0) rfl) TTok rfl rfl,?_⟩; conv=>whnf)
  (refine hKq _ _ _ (.refl _) ?_; clear hKq Kq; conv=>whnf)
  (refine VSeq.mk fun Kq hKq=>?_; conv=>whnf)
  (refine VSeq.mk fun Kq hKq=>?_; conv=>whnf)
  (refine ⟨_,_,Blk.ldV (vs:=[_,_,_,_]) (hp.get (i:=0) rfl) TTok rfl rfl rfl,?_⟩; conv=>whnf)
  refine V.CallsUse (cR hp.ext) fun w hx=>?_
  try (have hp:=hp.call hx)
  conv=>whnf
  refine hKq _ _ _ (.refl _) ?_
  clear hKq Kq
  conv=>whnf
  (refine And.intro (fun h=>absurd h (by decide)) (fun _=>?_); conv=>whnf)
  (refine VSeq.mk fun Kq hKq=>?_; conv=>whnf)
  (refine VSeq.mk fun Kq hKq=>?_; conv=>whnf)
  (refine hKq _ _ _ (.refl _) ?_; clear hKq Kq; conv=>whnf)
  by_cases hn:al.length=0
  ·have hF:markC c m id al=4:=by
    unfold markC
    rw [if_pos hb,List.getElem?_eq_none (by omega)]
   (refine And.intro (fun _=>?_) (fun h=>absurd (by first | rfl | assumption | omega | decide) (of_decide_eq_false h)); conv=>whnf)
   (refine hKq _ _ _ (.refl _) ?_; clear hKq Kq; conv=>whnf)
   (refine VSeq.mk fun Kq hKq=>?_; conv=>whnf)
   (refine hKq _ _ _ (.refl _) ?_; clear hKq Kq; conv=>whnf)
   (exact ⟨by (first | (rw [hF]; rfl) | fail),hp.ext⟩)
  ·obtain ⟨i,hi⟩:∃ i,al.length=i+1:=⟨al.length - 1,by omega⟩
   have hat:al[i]? = some al[i]:=List.getElem?_eq_getElem (by omega)
   have hF:markC c m id al=if al[i].1≠32808 then 4 else if al[i].2=fpB (wrB c.toNat m.toNat id (al.take i) 8) then 0 else 9:=by
    unfold markC
    rw [if_pos hb,show al.length - 1=i by omega,hat]
   obtain ⟨g,off,rfl,-⟩:=hv.at1 hat
   have hl0:=fun {w:World} (hx:Ext W w)=>SA.ld0 (hv.ext hx) hat
   have hl1:=fun {w:World} (hx:Ext W w)=>SA.ld1 (hv.ext hx) hat
   have hii:((al.length:Nat):Int) - 1=(i:Nat):=by omega
   (refine And.intro (fun h=>absurd (of_decide_eq_true h) (by first | (intro h2; exact absurd rfl h2) | omega | decide)) (fun _=>?_); conv=>whnf)
   (refine ⟨_,_,Blk.ld (hp.get (i:=0) rfl) TTok rfl rfl,?_⟩; conv=>whnf)
   (refine Or.inl (And.intro (by first | omega | decide) ?_); conv=>whnf)
   rw [hii]
   refine ⟨i,⟨by first | rfl | omega,by omega⟩,?_⟩
   conv=>whnf
   refine ⟨_,_,hl0 hp.ext,?_⟩
   conv=>whnf
   refine hKq _ _ _ (.refl _) ?_
   clear hKq Kq
   conv=>whnf
   skip
   by_cases hk:al[i].1=32808
   ·rw [if_neg (fun h=>h hk)] at hF
    obtain ⟨C,rfl⟩:=Int.eq_ofNat_of_zero_le (stunB_t hb).1
    obtain ⟨M,rfl⟩:=Int.eq_ofNat_of_zero_le (stunB_t hb).2.2.1
    rw [Int.toNat_natCast,Int.toNat_natCast] at hF
    have cM:=fun {w:World} (hx:Ext W w)=>Finger8_c (W:=w) C M id i (hv.ext hx) hb (by omega)
    obtain ⟨X,hX⟩:∃ X,fpB (wrB C M id (List.take i al) 8)=X:=⟨_,rfl⟩
    rw [hX] at hF cM
    (refine And.intro (fun h=>absurd (of_decide_eq_true h) (by first | (intro h2; exact absurd rfl h2) | omega | decide)) (fun _=>?_); conv=>whnf)
    (refine VSeq.mk fun Kq hKq=>?_; conv=>whnf)
    refine v_mixA TTok FFok mixed [(0,false),(1,false),(2,false),(3,false),(4,false),(5,false),(6,false),(7,false),(8,false),(9,false),(10,false),(11,false),(12,false)] (by kernel_rfl) ?_
    conv=>whnf
    (refine ⟨_,fun w' hx'=>Blk.ld (Blk.ext (hp.get (i:=0) rfl) hx') TTok rfl rfl,?_⟩; conv=>whnf)
    (refine Or.inl (And.intro (by first | omega | decide) ?_); conv=>whnf)
    rw [hii]
    refine ⟨i,⟨by first | rfl | omega,by omega⟩,?_⟩
    conv=>whnf
    refine ⟨_,fun w1 hx1=>hl1 (hp.ext.trans hx1),?_⟩
    conv=>whnf
    (refine ⟨_,fun w' hx'=>Blk.ldV (vs:=[_,_,_,_]) (Blk.ext (hp.get (i:=0) rfl) hx') TTok rfl rfl rfl,?_⟩; conv=>whnf)
    (refine Or.inl (And.intro (by first | omega | decide) ?_); conv=>whnf)
    rw [hii]
    refine ⟨_,fun w1 hx1=>cM (hp.ext.trans hx1),?_⟩
    conv=>whnf
    intro w hx
    try (have hp:=hp.call hx)
    conv=>whnf
    refine hKq _ _ _ (.refl _) ?_
    clear hKq Kq
    conv=>whnf
    refine ⟨fun hr=>?_,fun hr=>?_⟩
    ·have hr:=of_decide_eq_true hr
     conv=>whnf
     refine VSeq.mk fun Kq hKq=>?_
     conv=>whnf
     refine hKq _ _ _ (.refl _) ?_
     clear hKq Kq
     conv=>whnf
     (exact ⟨by (first | (rw [hF,if_neg hr]; rfl) | fail),hp.ext⟩)
    ·have hr:=of_decide_eq_false hr
     conv=>whnf
     refine hKq _ _ _ (.refl _) ?_
     clear hKq Kq
     conv=>whnf
     refine VSeq.mk fun Kq hKq=>?_
     conv=>whnf
     refine hKq _ _ _ (.refl _) ?_
     clear hKq Kq
     conv=>whnf
     have hr:al[i].2=X:=Decidable.not_not.1 hr
     (exact ⟨by (first | (rw [hF,if_pos hr]; rfl) | fail),hp.ext⟩)
   ·rw [if_pos hk] at hF
    (refine And.intro (fun _=>?_) (fun h=>absurd (by first | rfl | assumption | omega | decide) (of_decide_eq_false h)); conv=>whnf)
    (refine VSeq.mk fun Kq hKq=>?_; conv=>whnf)
    (refine hKq _ _ _ (.refl _) ?_; clear hKq Kq; conv=>whnf)
    (exact ⟨by (first | (rw [hF]; rfl) | fail),hp.ext⟩)
 ·have hF:markC c m id al=80:=by unfold markC; rw [if_neg hb]
  rw [show stunB c m id al=false by simpa using hb] at cR
  (refine ⟨_,_,Blk.ld (hp.get (i:=0) rfl) TTok rfl rfl,?_⟩; conv=>whnf)
  (refine hKq _ _ _ (.refl _) ?_; clear hKq Kq; conv=>whnf)
  (refine VSeq.mk fun Kq hKq=>?_; conv=>whnf)
  (refine VSeq.mk fun Kq hKq=>?_; conv=>whnf)
  (refine ⟨_,_,Blk.ldV (vs:=[_,_,_,_]) (hp.get (i:=0) rfl) TTok rfl rfl rfl,?_⟩; conv=>whnf)
  refine V.CallsUse (cR hp.ext) fun w hx=>?_
  try (have hp:=hp.call hx)
  conv=>whnf
  refine hKq _ _ _ (.refl _) ?_
  clear hKq Kq
  conv=>whnf
  (refine And.intro (fun _=>?_) (fun h=>absurd h (by decide)); conv=>whnf)
  (refine VSeq.mk fun Kq hKq=>?_; conv=>whnf)
  (refine hKq _ _ _ (.refl _) ?_; clear hKq Kq; conv=>whnf)
  (exact ⟨by (first | (rw [hF]; rfl) | fail),hp.ext⟩)
set_option maxHeartbeats 12800000
theorem has_idx (k:Int) (al:List At2):hasB k al=decide ((0:Int)≤idxI k al):=(idxI_pos k al).symm
theorem Protect8_c {W:World} {v tS tK:Value} {al:List At2} (c m:Int) (id key:ByteArray) (hv:SA W v al) (hS:SLv W tS (kw .i64 SL)) (hK:SLv W tK (kw .i64 KL)) :
  Calls Tryz.prog 50 #[.agg #[tS,tK],.agg #[.int .i64 c,.int .i64 m,.string id,v],.string key] W fun e w'=>∃ u,e = .returned u∧Msg8 W c m id (proC c m id key al) (proL c m id key al) (.returned u) w':=by
 unfold Msg8
 obtain ⟨D,hD⟩:∃ D,proC c m id key al=D:=⟨_,rfl⟩
 obtain ⟨bl,hL⟩:∃ bl,proL c m id key al=bl:=⟨_,rfl⟩
 rw [hD,hL]
 obtain ⟨p,cp,rfl⟩:=hv.shape
 obtain ⟨pS,cS,rfl⟩:=hS.shape
 obtain ⟨pK,cK,rfl⟩:=hK.shape
 have hml:=hv.len
 refine v_fn (args:=[.agg #[.slice pS (kw .i64 SL).length cS,.slice pK (kw .i64 KL).length cK],.agg #[.int .i64 c,.int .i64 m,.string id,.slice p al.length cp],.string key]) TTok FFok Tryz.func50 rfl (Nat.le_of_ble_eq_true rfl) ?_
 conv=>whnf
 refine VSeq.mk fun Kq hKq=>?_
 conv=>whnf
 have hp:=Hp.nil W
 refine hp.kboxA fun q3 w hp hx=>?_
 conv=>whnf
 refine hp.kboxA fun q4 w hp hx=>?_
 conv=>whnf
 have cR:=fun {w:World} (hx:Ext W w)=>right8_c (W:=w) c m id (hv.ext hx)
 by_cases hb:stunB c m id al=true
 ·rw [hb] at cR
  (refine hp.kalloc z24 fun al24 w hp hx=>?_; conv=>whnf)
  (refine hKq _ _ _ (.refl _) ?_; clear hKq Kq; conv=>whnf)
  (refine VSeq.mk fun Kq hKq=>?_; conv=>whnf)
  (refine VSeq.mk fun Kq hKq=>?_; conv=>whnf)
  (refine ⟨_,_,Blk.ldV (vs:=[_,_,_,_]) (hp.get (i:=1) rfl) TTok rfl rfl rfl,?_⟩; conv=>whnf)
  refine V.CallsUse (cR hp.ext) fun w hx=>?_
  try (have hp:=hp.call hx)
  conv=>whnf
  refine hKq _ _ _ (.refl _) ?_
  clear hKq Kq
  conv=>whnf
  (refine And.intro (fun h=>absurd h (by decide)) (fun _=>?_); conv=>whnf)
  (refine VSeq.mk fun Kq hKq=>?_; conv=>whnf)
  (refine hKq _ _ _ (.refl _) ?_; clear hKq Kq; conv=>whnf)
  refine ⟨fun hk=>?_,fun hk=>?_⟩
  ·have hk:=of_decide_eq_true hk
   conv=>whnf
   refine VSeq.mk fun Kq hKq=>?_
   conv=>whnf
   have hF:D=3:=by rw [← hD]; unfold proC; rw [if_pos hb,if_pos (by omega)]
   (refine ⟨_,_,bld24_ _,?_⟩; conv=>whnf)
   (refine hp.kstA TTok rfl 0 rfl rfl (oneC_of rfl) (by rfl) fun w hp=>?_; try simp only [List.set_cons_zero,List.set_cons_succ,EV.val] at hp; conv=>whnf)
   (refine hKq _ _ _ (.refl _) ?_; clear hKq Kq; conv=>whnf)
   (refine ⟨_,Blk.lvN (hp.get (i:=0) rfl) TTok rfl rfl,?_⟩; conv=>whnf)
   exact .inr ⟨by omega,by rw [hF]; rfl,hp.ext⟩
  ·have hk:=of_decide_eq_false hk
   conv=>whnf
   refine VSeq.mk fun Kq hKq=>?_
   conv=>whnf
   refine VSeq.mk fun Kq hKq=>?_
   conv=>whnf
   (refine ⟨_,_,Blk.ldV (vs:=[_,_,_,_]) (hp.get (i:=1) rfl) TTok rfl rfl rfl,?_⟩; conv=>whnf)
   have c8:=fun {w:World} (hx:Ext W w)=>first8_c (W:=w) c m id 8 (hv.ext hx)
   have c9:=fun {w:World} (hx:Ext W w)=>first8_c (W:=w) c m id 32808 (hv.ext hx)
   by_cases e8:0≤idxI 8 al
   ·have hh:hasB 8 al=true:=by rw [has_idx]; exact decide_eq_true e8
    have hF:D=2:=by rw [← hD]; unfold proC; rw [if_pos hb,if_neg (by omega),if_pos (.inl hh)]
    refine V.CallsUse (c8 hp.ext) fun w hx=>?_
    try (have hp:=hp.call hx)
    conv=>whnf
    refine hKq _ _ _ (.refl _) ?_
    clear hKq Kq
    conv=>whnf
    (refine And.intro (fun _=>?_) (fun h=>absurd (by first | rfl | assumption | omega | decide) (of_decide_eq_false h)); conv=>whnf)
    (refine hKq _ _ _ (.refl _) ?_; clear hKq Kq; conv=>whnf)
    (refine VSeq.mk fun Kq hKq=>?_; conv=>whnf)
    (refine ⟨_,_,bld24_ _,?_⟩; conv=>whnf)
    (refine hp.kstA TTok rfl 0 rfl rfl (oneC_of rfl) (by rfl) fun w hp=>?_; try simp only [List.set_cons_zero,List.set_cons_succ,EV.val] at hp; conv=>whnf)
    (refine hKq _ _ _ (.refl _) ?_; clear hKq Kq; conv=>whnf)
    (refine ⟨_,Blk.lvN (hp.get (i:=0) rfl) TTok rfl rfl,?_⟩; conv=>whnf)
    exact .inr ⟨by omega,by rw [hF]; rfl,hp.ext⟩
   by_cases e9:0≤idxI 32808 al
   ·have hh:hasB 32808 al=true:=by rw [has_idx]; exact decide_eq_true e9
    have hF:D=2:=by rw [← hD]; unfold proC; rw [if_pos hb,if_neg (by omega),if_pos (.inr hh)]
    refine V.CallsUse (c8 hp.ext) fun w hx=>?_
    try (have hp:=hp.call hx)
    conv=>whnf
    refine hKq _ _ _ (.refl _) ?_
    clear hKq Kq
    conv=>whnf
    (refine And.intro (fun h=>absurd (of_decide_eq_true h) (by first | (intro h2; exact absurd rfl h2) | omega | decide)) (fun _=>?_); conv=>whnf)
    (refine ⟨_,_,Blk.ldV (vs:=[_,_,_,_]) (hp.get (i:=1) rfl) TTok rfl rfl rfl,?_⟩; conv=>whnf)
    refine V.CallsUse (c9 hp.ext) fun w hx=>?_
    try (have hp:=hp.call hx)
    conv=>whnf
    refine hKq _ _ _ (.refl _) ?_
    clear hKq Kq
    conv=>whnf
    (refine And.intro (fun _=>?_) (fun h=>absurd (by first | rfl | assumption | omega | decide) (of_decide_eq_false h)); conv=>whnf)
    (refine VSeq.mk fun Kq hKq=>?_; conv=>whnf)
    (refine ⟨_,_,bld24_ _,?_⟩; conv=>whnf)
    (refine hp.kstA TTok rfl 0 rfl rfl (oneC_of rfl) (by rfl) fun w hp=>?_; try simp only [List.set_cons_zero,List.set_cons_succ,EV.val] at hp; conv=>whnf)
    (refine hKq _ _ _ (.refl _) ?_; clear hKq Kq; conv=>whnf)
    (refine ⟨_,Blk.lvN (hp.get (i:=0) rfl) TTok rfl rfl,?_⟩; conv=>whnf)
    exact .inr ⟨by omega,by rw [hF]; rfl,hp.ext⟩
   have h8:hasB 8 al=false:=by rw [has_idx]; exact decide_eq_false e8
   have h9:hasB 32808 al=false:=by rw [has_idx]; exact decide_eq_false e9
   obtain ⟨C,rfl⟩:=Int.eq_ofNat_of_zero_le (stunB_t hb).1
   obtain ⟨M,rfl⟩:=Int.eq_ofNat_of_zero_le (stunB_t hb).2.2.1
   have hbt:=stunB_t hb
   have cM:=fun {w:World} (hx:Ext W w)=>Integ8_c (W:=w) C M id key al.length (hv.ext hx) (hS.ext hx) (hK.ext hx) hb (Nat.le_refl _) (by omega)
   rw [List.take_length] at cM
   have hF:D=if stunB C M id (al++[(8,macB key (wrB C M id al 36))])=true then 0 else 3:=by rw [← hD]; unfold proC; rw [if_pos hb,if_neg (by omega),if_neg (by rw [h8,h9]; decide),Int.toNat_natCast,Int.toNat_natCast]
   unfold proL at hL
   rw [Int.toNat_natCast,Int.toNat_natCast] at hL
   obtain ⟨X,hX⟩:∃ X,macB key (wrB C M id al 36)=X:=⟨_,rfl⟩
   rw [hX] at hF hL cM
   have cW:=fun {w:World} (hx:Ext W w)=>With8_c (W:=w) C M id 8 X (hv.ext hx) (by omega)
   rw [hL] at hF cW
   refine V.CallsUse (c8 hp.ext) fun w hx=>?_
   try (have hp:=hp.call hx)
   conv=>whnf
   refine hKq _ _ _ (.refl _) ?_
   clear hKq Kq
   conv=>whnf
   (refine And.intro (fun h=>absurd (of_decide_eq_true h) (by first | (intro h2; exact absurd rfl h2) | omega | decide)) (fun _=>?_); conv=>whnf)
   (refine ⟨_,_,Blk.ldV (vs:=[_,_,_,_]) (hp.get (i:=1) rfl) TTok rfl rfl rfl,?_⟩; conv=>whnf)
   refine V.CallsUse (c9 hp.ext) fun w hx=>?_
   try (have hp:=hp.call hx)
   conv=>whnf
   refine hKq _ _ _ (.refl _) ?_
   clear hKq Kq
   conv=>whnf
   (refine And.intro (fun h=>absurd (of_decide_eq_true h) (by first | (intro h2; exact absurd rfl h2) | omega | decide)) (fun _=>?_); conv=>whnf)
   (refine hKq _ _ _ (.refl _) ?_; clear hKq Kq; conv=>whnf)
   (refine VSeq.mk fun Kq hKq=>?_; conv=>whnf)
   obtain ⟨b6,rfl⟩:∃ q,q=al24:=⟨al24,rfl⟩
   clear c8 c9 cR hX hD hL
   refine v_mt TTok FFok mixed 10 (.q 0 (.q 1 (.q 2 (.q 3 (.q 4 (.q 5 (.q 6 (.q 7 (.br 8 9 (.m 9 .nil) (.m 8 .nil)))))))))) (by kernel_rfl) ?_
   conv=>whnf
   (refine ⟨_,fun w' hx'=>Blk.ldV (vs:=[_,_,_,_]) (Blk.ext (hp.get (i:=1) rfl) hx') TTok rfl rfl rfl,?_⟩; conv=>whnf)
   (refine ⟨_,fun w' hx'=>Blk.ldV (vs:=[_,_]) (Blk.ext (hp.get (i:=2) rfl) hx') TTok rfl rfl rfl,?_⟩; conv=>whnf)
   (refine ⟨_,fun w' hx'=>Blk.ldV (vs:=[_,_,_,_]) (Blk.ext (hp.get (i:=1) rfl) hx') TTok rfl rfl rfl,?_⟩; conv=>whnf)
   (refine ⟨_,fun w' hx'=>Blk.ld (Blk.ext (hp.get (i:=1) rfl) hx') TTok rfl rfl,?_⟩; conv=>whnf)
   refine ⟨_,fun w1 hx1=>cM (hp.ext.trans hx1),?_⟩
   conv=>whnf
   refine And.intro ?_ ?_
   ·intro w hx
    try (have hp:=hp.call hx)
    conv=>whnf
    refine Calls.mono (cW hp.ext) ?_
    rintro _ w ⟨_,rfl,u,rfl,hr⟩
    refine ⟨_,rfl,?_⟩
    have hx:=hr.ext
    have hp:=hp.join hr
    clear hr
    simp only [List.cons_append,List.nil_append] at hp
    obtain ⟨pu,cu,rfl⟩:=row_shape (hp.get (i:=0) rfl)
    conv=>whnf
    refine And.intro hx ?_
    conv=>whnf
    intro w hx
    try (have hp:=hp.call hx)
    conv=>whnf
    refine hp.kalloc z24 fun b8 w hp hx=>?_
    conv=>whnf
    refine And.intro hx ?_
    conv=>whnf
    have hp:HpM [] W w [blk b8 [.int .i64 0,.int .i64 0,.string ⟨#[]⟩,.slice none 0 0] 24,row 54 2 (.slice pu bl.length cu) bl.length (flatC bl),blk b6 [.int .i64 0,.int .i64 0,.string ⟨#[]⟩,.slice none 0 0] 24]:=hp.pick [0,1,2] (by decide)
    intro w hx
    try (have hp:=hp.call hx)
    conv=>whnf
    (refine hp.kstA TTok rfl 0 rfl rfl (oneC_of rfl) (by rfl) fun w hp=>?_; try simp only [List.set_cons_zero,List.set_cons_succ,EV.val] at hp; conv=>whnf)
    (refine hKq _ _ _ (.refl _) ?_; clear hKq Kq; conv=>whnf)
    (refine VSeq.mk fun Kq hKq=>?_; conv=>whnf)
    (refine VSeq.mk fun Kq hKq=>?_; conv=>whnf)
    (refine ⟨_,_,Blk.ldV (vs:=[_,_,_,_]) (hp.get (i:=0) rfl) TTok rfl rfl rfl,?_⟩; conv=>whnf)
    have cR:=right8_c (W:=w) C M id (SA.of_row (hp.get (i:=1) rfl))
    obtain ⟨B,hB⟩:∃ B,stunB C M id bl=B:=⟨_,rfl⟩
    rw [hB] at cR hF
    cases B with
    | false =>
     rw [if_neg (by decide)] at hF
     refine V.CallsUse (cR) fun w hx=>?_
     try (have hp:=hp.call hx)
     conv=>whnf
     refine hKq _ _ _ (.refl _) ?_
     clear hKq Kq
     conv=>whnf
     (refine And.intro (fun _=>?_) (fun h=>absurd h (by decide)); conv=>whnf)
     (refine VSeq.mk fun Kq hKq=>?_; conv=>whnf)
     (refine ⟨_,_,bld24_ _,?_⟩; conv=>whnf)
     (refine hp.kstA TTok rfl 2 rfl rfl (oneC_of rfl) (by rfl) fun w hp=>?_; try simp only [List.set_cons_zero,List.set_cons_succ,EV.val] at hp; conv=>whnf)
     (refine hKq _ _ _ (.refl _) ?_; clear hKq Kq; conv=>whnf)
     (refine ⟨_,Blk.lvN (hp.get (i:=2) rfl) TTok rfl rfl,?_⟩; conv=>whnf)
     exact .inr ⟨by omega,by rw [hF]; rfl,hp.ext⟩
    | true =>
     rw [if_pos rfl] at hF
     refine V.CallsUse (cR) fun w hx=>?_
     try (have hp:=hp.call hx)
     conv=>whnf
     refine hKq _ _ _ (.refl _) ?_
     clear hKq Kq
     conv=>whnf
     (refine And.intro (fun h=>absurd h (by decide)) (fun _=>?_); conv=>whnf)
     (refine hKq _ _ _ (.refl _) ?_; clear hKq Kq; conv=>whnf)
     (refine VSeq.mk fun Kq hKq=>?_; conv=>whnf)
     (refine ⟨_,_,Blk.ldV (vs:=[_,_,_,_]) (hp.get (i:=0) rfl) TTok rfl rfl rfl,?_⟩; conv=>whnf)
     (refine hp.kstA TTok rfl 2 rfl rfl (oneC_of rfl) (by rfl) fun w hp=>?_; try simp only [List.set_cons_zero,List.set_cons_succ,EV.val] at hp; conv=>whnf)
     (refine hKq _ _ _ (.refl _) ?_; clear hKq Kq; conv=>whnf)
     (refine ⟨_,Blk.lvN (hp.get (i:=2) rfl) TTok rfl rfl,?_⟩; conv=>whnf)
     (refine Or.inl (And.intro (by first | omega | decide) ?_); conv=>whnf)
     exact ⟨_,rfl,hp.pick [1] (by decide)⟩
   ·intro w hx
    try (have hp:=hp.call hx)
    conv=>whnf
    refine hp.kalloc z24 fun b8 w hp hx=>?_
    conv=>whnf
    refine And.intro hx ?_
    conv=>whnf
    intro w hx
    try (have hp:=hp.call hx)
    conv=>whnf
    refine Calls.mono (cW hp.ext) ?_
    rintro _ w ⟨_,rfl,u,rfl,hr⟩
    refine ⟨_,rfl,?_⟩
    have hx:=hr.ext
    have hp:=hp.join hr
    clear hr
    simp only [List.cons_append,List.nil_append] at hp
    obtain ⟨pu,cu,rfl⟩:=row_shape (hp.get (i:=0) rfl)
    conv=>whnf
    refine And.intro hx ?_
    conv=>whnf
    have hp:HpM [] W w [blk b8 [.int .i64 0,.int .i64 0,.string ⟨#[]⟩,.slice none 0 0] 24,row 54 2 (.slice pu bl.length cu) bl.length (flatC bl),blk b6 [.int .i64 0,.int .i64 0,.string ⟨#[]⟩,.slice none 0 0] 24]:=hp.pick [1,0,2] (by decide)
    intro w hx
    try (have hp:=hp.call hx)
    conv=>whnf
    (refine hp.kstA TTok rfl 0 rfl rfl (oneC_of rfl) (by rfl) fun w hp=>?_; try simp only [List.set_cons_zero,List.set_cons_succ,EV.val] at hp; conv=>whnf)
    (refine hKq _ _ _ (.refl _) ?_; clear hKq Kq; conv=>whnf)
    (refine VSeq.mk fun Kq hKq=>?_; conv=>whnf)
    (refine VSeq.mk fun Kq hKq=>?_; conv=>whnf)
    (refine ⟨_,_,Blk.ldV (vs:=[_,_,_,_]) (hp.get (i:=0) rfl) TTok rfl rfl rfl,?_⟩; conv=>whnf)
    have cR:=right8_c (W:=w) C M id (SA.of_row (hp.get (i:=1) rfl))
    obtain ⟨B,hB⟩:∃ B,stunB C M id bl=B:=⟨_,rfl⟩
    rw [hB] at cR hF
    cases B with
    | false =>
     rw [if_neg (by decide)] at hF
     refine V.CallsUse (cR) fun w hx=>?_
     try (have hp:=hp.call hx)
     conv=>whnf
     refine hKq _ _ _ (.refl _) ?_
     clear hKq Kq
     conv=>whnf
     (refine And.intro (fun _=>?_) (fun h=>absurd h (by decide)); conv=>whnf)
     (refine VSeq.mk fun Kq hKq=>?_; conv=>whnf)
     (refine ⟨_,_,bld24_ _,?_⟩; conv=>whnf)
     (refine hp.kstA TTok rfl 2 rfl rfl (oneC_of rfl) (by rfl) fun w hp=>?_; try simp only [List.set_cons_zero,List.set_cons_succ,EV.val] at hp; conv=>whnf)
     (refine hKq _ _ _ (.refl _) ?_; clear hKq Kq; conv=>whnf)
     (refine ⟨_,Blk.lvN (hp.get (i:=2) rfl) TTok rfl rfl,?_⟩; conv=>whnf)
     exact .inr ⟨by omega,by rw [hF]; rfl,hp.ext⟩
    | true =>
     rw [if_pos rfl] at hF
     refine V.CallsUse (cR) fun w hx=>?_
     try (have hp:=hp.call hx)
     conv=>whnf
     refine hKq _ _ _ (.refl _) ?_
     clear hKq Kq
     conv=>whnf
     (refine And.intro (fun h=>absurd h (by decide)) (fun _=>?_); conv=>whnf)
     (refine hKq _ _ _ (.refl _) ?_; clear hKq Kq; conv=>whnf)
     (refine VSeq.mk fun Kq hKq=>?_; conv=>whnf)
     (refine ⟨_,_,Blk.ldV (vs:=[_,_,_,_]) (hp.get (i:=0) rfl) TTok rfl rfl rfl,?_⟩; conv=>whnf)
     (refine hp.kstA TTok rfl 2 rfl rfl (oneC_of rfl) (by rfl) fun w hp=>?_; try simp only [List.set_cons_zero,List.set_cons_succ,EV.val] at hp; conv=>whnf)
     (refine hKq _ _ _ (.refl _) ?_; clear hKq Kq; conv=>whnf)
     (refine ⟨_,Blk.lvN (hp.get (i:=2) rfl) TTok rfl rfl,?_⟩; conv=>whnf)
     (refine Or.inl (And.intro (by first | omega | decide) ?_); conv=>whnf)
     exact ⟨_,rfl,hp.pick [1] (by decide)⟩
 ·have hF:D=80:=by rw [← hD]; unfold proC; rw [if_neg hb]
  rw [show stunB c m id al=false by simpa using hb] at cR
  (refine hp.kalloc z24 fun al24 w hp hx=>?_; conv=>whnf)
  (refine hKq _ _ _ (.refl _) ?_; clear hKq Kq; conv=>whnf)
  (refine VSeq.mk fun Kq hKq=>?_; conv=>whnf)
  (refine VSeq.mk fun Kq hKq=>?_; conv=>whnf)
  (refine ⟨_,_,Blk.ldV (vs:=[_,_,_,_]) (hp.get (i:=1) rfl) TTok rfl rfl rfl,?_⟩; conv=>whnf)
  refine V.CallsUse (cR hp.ext) fun w hx=>?_
  try (have hp:=hp.call hx)
  conv=>whnf
  refine hKq _ _ _ (.refl _) ?_
  clear hKq Kq
  conv=>whnf
  (refine And.intro (fun _=>?_) (fun h=>absurd h (by decide)); conv=>whnf)
  (refine VSeq.mk fun Kq hKq=>?_; conv=>whnf)
  (refine ⟨_,_,bld24_ _,?_⟩; conv=>whnf)
  (refine hp.kstA TTok rfl 0 rfl rfl (oneC_of rfl) (by rfl) fun w hp=>?_; try simp only [List.set_cons_zero,List.set_cons_succ,EV.val] at hp; conv=>whnf)
  (refine hKq _ _ _ (.refl _) ?_; clear hKq Kq; conv=>whnf)
  (refine ⟨_,Blk.lvN (hp.get (i:=0) rfl) TTok rfl rfl,?_⟩; conv=>whnf)
  exact .inr ⟨by omega,by rw [hF]; rfl,hp.ext⟩
theorem Mark8_c {W:World} {v:Value} {al:List At2} (c m:Int) (id:ByteArray) (hv:SA W v al) :
  Calls Tryz.prog 51 #[.agg #[.int .i64 c,.int .i64 m,.string id,v]] W fun e w'=>∃ u,e = .returned u∧Msg8 W c m id (mrkC c m id al) (mrkL c m id al) (.returned u) w':=by
 unfold Msg8
 obtain ⟨D,hD⟩:∃ D,mrkC c m id al=D:=⟨_,rfl⟩
 obtain ⟨bl,hL⟩:∃ bl,mrkL c m id al=bl:=⟨_,rfl⟩
 rw [hD,hL]
 obtain ⟨p,cp,rfl⟩:=hv.shape
 have hml:=hv.len
 refine v_fn (args:=[.agg #[.int .i64 c,.int .i64 m,.string id,.slice p al.length cp]]) TTok FFok Tryz.func51 rfl (Nat.le_of_ble_eq_true rfl) ?_
 conv=>whnf
 refine VSeq.mk fun Kq hKq=>?_
 conv=>whnf
 have hp:=Hp.nil W
 refine hp.kboxA fun q1 w hp hx=>?_
 conv=>whnf
 have cR:=fun {w:World} (hx:Ext W w)=>right8_c (W:=w) c m id (hv.ext hx)
 by_cases hb:stunB c m id al=true
 ·rw [hb] at cR
  (refine hp.kalloc z24 fun al24 w hp hx=>?_; conv=>whnf)
  (refine hKq _ _ _ (.refl _) ?_; clear hKq Kq; conv=>whnf)
  (refine VSeq.mk fun Kq hKq=>?_; conv=>whnf)
  (refine VSeq.mk fun Kq hKq=>?_; conv=>whnf)
  (refine ⟨_,_,Blk.ldV (vs:=[_,_,_,_]) (hp.get (i:=1) rfl) TTok rfl rfl rfl,?_⟩; conv=>whnf)
  refine V.CallsUse (cR hp.ext) fun w hx=>?_
  try (have hp:=hp.call hx)
  conv=>whnf
  refine hKq _ _ _ (.refl _) ?_
  clear hKq Kq
  conv=>whnf
  (refine And.intro (fun h=>absurd h (by decide)) (fun _=>?_); conv=>whnf)
  (refine VSeq.mk fun Kq hKq=>?_; conv=>whnf)
  (refine ⟨_,_,Blk.ldV (vs:=[_,_,_,_]) (hp.get (i:=1) rfl) TTok rfl rfl rfl,?_⟩; conv=>whnf)
  have c9:=fun {w:World} (hx:Ext W w)=>first8_c (W:=w) c m id 32808 (hv.ext hx)
  by_cases e9:0≤idxI 32808 al
  ·have hh:hasB 32808 al=true:=by rw [has_idx]; exact decide_eq_true e9
   have hF:D=2:=by rw [← hD]; unfold mrkC; rw [if_pos hb,if_pos hh]
   refine V.CallsUse (c9 hp.ext) fun w hx=>?_
   try (have hp:=hp.call hx)
   conv=>whnf
   refine hKq _ _ _ (.refl _) ?_
   clear hKq Kq
   conv=>whnf
   (refine And.intro (fun _=>?_) (fun h=>absurd (by first | rfl | assumption | omega | decide) (of_decide_eq_false h)); conv=>whnf)
   (refine VSeq.mk fun Kq hKq=>?_; conv=>whnf)
   (refine ⟨_,_,bld24_ _,?_⟩; conv=>whnf)
   (refine hp.kstA TTok rfl 0 rfl rfl (oneC_of rfl) (by rfl) fun w hp=>?_; try simp only [List.set_cons_zero,List.set_cons_succ,EV.val] at hp; conv=>whnf)
   (refine hKq _ _ _ (.refl _) ?_; clear hKq Kq; conv=>whnf)
   (refine ⟨_,Blk.lvN (hp.get (i:=0) rfl) TTok rfl rfl,?_⟩; conv=>whnf)
   exact .inr ⟨by omega,by rw [hF]; rfl,hp.ext⟩
  have h9:hasB 32808 al=false:=by rw [has_idx]; exact decide_eq_false e9
  obtain ⟨C,rfl⟩:=Int.eq_ofNat_of_zero_le (stunB_t hb).1
  obtain ⟨M,rfl⟩:=Int.eq_ofNat_of_zero_le (stunB_t hb).2.2.1
  have hbt:=stunB_t hb
  have cM:=fun {w:World} (hx:Ext W w)=>Finger8_c (W:=w) C M id al.length (hv.ext hx) hb (Nat.le_refl _)
  rw [List.take_length] at cM
  have hF:D=if stunB C M id (al++[(32808,fpB (wrB C M id al 8))])=true then 0 else 3:=by rw [← hD]; unfold mrkC; rw [if_pos hb,if_neg (by rw [h9]; decide),Int.toNat_natCast,Int.toNat_natCast]
  unfold mrkL at hL
  rw [Int.toNat_natCast,Int.toNat_natCast] at hL
  obtain ⟨X,hX⟩:∃ X,fpB (wrB C M id al 8)=X:=⟨_,rfl⟩
  rw [hX] at hF hL cM
  have cW:=fun {w:World} (hx:Ext W w)=>With8_c (W:=w) C M id 32808 X (hv.ext hx) (by omega)
  rw [hL] at hF cW
  refine V.CallsUse (c9 hp.ext) fun w hx=>?_
  try (have hp:=hp.call hx)
  conv=>whnf
  refine hKq _ _ _ (.refl _) ?_
  clear hKq Kq
  conv=>whnf
  (refine And.intro (fun h=>absurd (of_decide_eq_true h) (by first | (intro h2; exact absurd rfl h2) | omega | decide)) (fun _=>?_); conv=>whnf)
  (refine hKq _ _ _ (.refl _) ?_; clear hKq Kq; conv=>whnf)
  (refine VSeq.mk fun Kq hKq=>?_; conv=>whnf)
  obtain ⟨b6,rfl⟩:∃ q,q=al24:=⟨al24,rfl⟩
  clear c9 cR hX hD hL
  refine v_mt TTok FFok mixed 8 (.q 0 (.q 1 (.q 2 (.q 3 (.q 4 (.q 5 (.br 6 7 (.m 7 .nil) (.m 6 .nil)))))))) (by kernel_rfl) ?_
  conv=>whnf
  (refine ⟨_,fun w' hx'=>Blk.ldV (vs:=[_,_,_,_]) (Blk.ext (hp.get (i:=1) rfl) hx') TTok rfl rfl rfl,?_⟩; conv=>whnf)
  (refine ⟨_,fun w' hx'=>Blk.ldV (vs:=[_,_,_,_]) (Blk.ext (hp.get (i:=1) rfl) hx') TTok rfl rfl rfl,?_⟩; conv=>whnf)
  (refine ⟨_,fun w' hx'=>Blk.ld (Blk.ext (hp.get (i:=1) rfl) hx') TTok rfl rfl,?_⟩; conv=>whnf)
  refine ⟨_,fun w1 hx1=>cM (hp.ext.trans hx1),?_⟩
  conv=>whnf
  refine And.intro ?_ ?_
  ·intro w hx
   try (have hp:=hp.call hx)
   conv=>whnf
   refine Calls.mono (cW hp.ext) ?_
   rintro _ w ⟨_,rfl,u,rfl,hr⟩
   refine ⟨_,rfl,?_⟩
   have hx:=hr.ext
   have hp:=hp.join hr
   clear hr
   simp only [List.cons_append,List.nil_append] at hp
   obtain ⟨pu,cu,rfl⟩:=row_shape (hp.get (i:=0) rfl)
   conv=>whnf
   refine And.intro hx ?_
   conv=>whnf
   intro w hx
   try (have hp:=hp.call hx)
   conv=>whnf
   refine hp.kalloc z24 fun b8 w hp hx=>?_
   conv=>whnf
   refine And.intro hx ?_
   conv=>whnf
   have hp:HpM [] W w [blk b8 [.int .i64 0,.int .i64 0,.string ⟨#[]⟩,.slice none 0 0] 24,row 54 2 (.slice pu bl.length cu) bl.length (flatC bl),blk b6 [.int .i64 0,.int .i64 0,.string ⟨#[]⟩,.slice none 0 0] 24]:=hp.pick [0,1,2] (by decide)
   intro w hx
   try (have hp:=hp.call hx)
   conv=>whnf
   (refine hp.kstA TTok rfl 0 rfl rfl (oneC_of rfl) (by rfl) fun w hp=>?_; try simp only [List.set_cons_zero,List.set_cons_succ,EV.val] at hp; conv=>whnf)
   (refine hKq _ _ _ (.refl _) ?_; clear hKq Kq; conv=>whnf)
   (refine VSeq.mk fun Kq hKq=>?_; conv=>whnf)
   (refine VSeq.mk fun Kq hKq=>?_; conv=>whnf)
   (refine ⟨_,_,Blk.ldV (vs:=[_,_,_,_]) (hp.get (i:=0) rfl) TTok rfl rfl rfl,?_⟩; conv=>whnf)
   have cR:=right8_c (W:=w) C M id (SA.of_row (hp.get (i:=1) rfl))
   obtain ⟨B,hB⟩:∃ B,stunB C M id bl=B:=⟨_,rfl⟩
   rw [hB] at cR hF
   cases B with
   | false =>
    rw [if_neg (by decide)] at hF
    refine V.CallsUse (cR) fun w hx=>?_
    try (have hp:=hp.call hx)
    conv=>whnf
    refine hKq _ _ _ (.refl _) ?_
    clear hKq Kq
    conv=>whnf
    (refine And.intro (fun _=>?_) (fun h=>absurd h (by decide)); conv=>whnf)
    (refine VSeq.mk fun Kq hKq=>?_; conv=>whnf)
    (refine ⟨_,_,bld24_ _,?_⟩; conv=>whnf)
    (refine hp.kstA TTok rfl 2 rfl rfl (oneC_of rfl) (by rfl) fun w hp=>?_; try simp only [List.set_cons_zero,List.set_cons_succ,EV.val] at hp; conv=>whnf)
    (refine hKq _ _ _ (.refl _) ?_; clear hKq Kq; conv=>whnf)
    (refine ⟨_,Blk.lvN (hp.get (i:=2) rfl) TTok rfl rfl,?_⟩; conv=>whnf)
    exact .inr ⟨by omega,by rw [hF]; rfl,hp.ext⟩
   | true =>
    rw [if_pos rfl] at hF
    refine V.CallsUse (cR) fun w hx=>?_
    try (have hp:=hp.call hx)
    conv=>whnf
    refine hKq _ _ _ (.refl _) ?_
    clear hKq Kq
    conv=>whnf
    (refine And.intro (fun h=>absurd h (by decide)) (fun _=>?_); conv=>whnf)
    (refine hKq _ _ _ (.refl _) ?_; clear hKq Kq; conv=>whnf)
    (refine VSeq.mk fun Kq hKq=>?_; conv=>whnf)
    (refine ⟨_,_,Blk.ldV (vs:=[_,_,_,_]) (hp.get (i:=0) rfl) TTok rfl rfl rfl,?_⟩; conv=>whnf)
    (refine hp.kstA TTok rfl 2 rfl rfl (oneC_of rfl) (by rfl) fun w hp=>?_; try simp only [List.set_cons_zero,List.set_cons_succ,EV.val] at hp; conv=>whnf)
    (refine hKq _ _ _ (.refl _) ?_; clear hKq Kq; conv=>whnf)
    (refine ⟨_,Blk.lvN (hp.get (i:=2) rfl) TTok rfl rfl,?_⟩; conv=>whnf)
    (refine Or.inl (And.intro (by first | omega | decide) ?_); conv=>whnf)
    exact ⟨_,rfl,hp.pick [1] (by decide)⟩
  ·intro w hx
   try (have hp:=hp.call hx)
   conv=>whnf
   refine hp.kalloc z24 fun b8 w hp hx=>?_
   conv=>whnf
   refine And.intro hx ?_
   conv=>whnf
   intro w hx
   try (have hp:=hp.call hx)
   conv=>whnf
   refine Calls.mono (cW hp.ext) ?_
   rintro _ w ⟨_,rfl,u,rfl,hr⟩
   refine ⟨_,rfl,?_⟩
   have hx:=hr.ext
   have hp:=hp.join hr
   clear hr
   simp only [List.cons_append,List.nil_append] at hp
   obtain ⟨pu,cu,rfl⟩:=row_shape (hp.get (i:=0) rfl)
   conv=>whnf
   refine And.intro hx ?_
   conv=>whnf
   have hp:HpM [] W w [blk b8 [.int .i64 0,.int .i64 0,.string ⟨#[]⟩,.slice none 0 0] 24,row 54 2 (.slice pu bl.length cu) bl.length (flatC bl),blk b6 [.int .i64 0,.int .i64 0,.string ⟨#[]⟩,.slice none 0 0] 24]:=hp.pick [1,0,2] (by decide)
   intro w hx
   try (have hp:=hp.call hx)
   conv=>whnf
   (refine hp.kstA TTok rfl 0 rfl rfl (oneC_of rfl) (by rfl) fun w hp=>?_; try simp only [List.set_cons_zero,List.set_cons_succ,EV.val] at hp; conv=>whnf)
   (refine hKq _ _ _ (.refl _) ?_; clear hKq Kq; conv=>whnf)
   (refine VSeq.mk fun Kq hKq=>?_; conv=>whnf)
   (refine VSeq.mk fun Kq hKq=>?_; conv=>whnf)
   (refine ⟨_,_,Blk.ldV (vs:=[_,_,_,_]) (hp.get (i:=0) rfl) TTok rfl rfl rfl,?_⟩; conv=>whnf)
   have cR:=right8_c (W:=w) C M id (SA.of_row (hp.get (i:=1) rfl))
   obtain ⟨B,hB⟩:∃ B,stunB C M id bl=B:=⟨_,rfl⟩
   rw [hB] at cR hF
   cases B with
   | false =>
    rw [if_neg (by decide)] at hF
    refine V.CallsUse (cR) fun w hx=>?_
    try (have hp:=hp.call hx)
    conv=>whnf
    refine hKq _ _ _ (.refl _) ?_
    clear hKq Kq
    conv=>whnf
    (refine And.intro (fun _=>?_) (fun h=>absurd h (by decide)); conv=>whnf)
    (refine VSeq.mk fun Kq hKq=>?_; conv=>whnf)
    (refine ⟨_,_,bld24_ _,?_⟩; conv=>whnf)
    (refine hp.kstA TTok rfl 2 rfl rfl (oneC_of rfl) (by rfl) fun w hp=>?_; try simp only [List.set_cons_zero,List.set_cons_succ,EV.val] at hp; conv=>whnf)
    (refine hKq _ _ _ (.refl _) ?_; clear hKq Kq; conv=>whnf)
    (refine ⟨_,Blk.lvN (hp.get (i:=2) rfl) TTok rfl rfl,?_⟩; conv=>whnf)
    exact .inr ⟨by omega,by rw [hF]; rfl,hp.ext⟩
   | true =>
    rw [if_pos rfl] at hF
    refine V.CallsUse (cR) fun w hx=>?_
    try (have hp:=hp.call hx)
    conv=>whnf
    refine hKq _ _ _ (.refl _) ?_
    clear hKq Kq
    conv=>whnf
    (refine And.intro (fun h=>absurd h (by decide)) (fun _=>?_); conv=>whnf)
    (refine hKq _ _ _ (.refl _) ?_; clear hKq Kq; conv=>whnf)
    (refine VSeq.mk fun Kq hKq=>?_; conv=>whnf)
    (refine ⟨_,_,Blk.ldV (vs:=[_,_,_,_]) (hp.get (i:=0) rfl) TTok rfl rfl rfl,?_⟩; conv=>whnf)
    (refine hp.kstA TTok rfl 2 rfl rfl (oneC_of rfl) (by rfl) fun w hp=>?_; try simp only [List.set_cons_zero,List.set_cons_succ,EV.val] at hp; conv=>whnf)
    (refine hKq _ _ _ (.refl _) ?_; clear hKq Kq; conv=>whnf)
    (refine ⟨_,Blk.lvN (hp.get (i:=2) rfl) TTok rfl rfl,?_⟩; conv=>whnf)
    (refine Or.inl (And.intro (by first | omega | decide) ?_); conv=>whnf)
    exact ⟨_,rfl,hp.pick [1] (by decide)⟩
 ·have hF:D=80:=by rw [← hD]; unfold mrkC; rw [if_neg hb]
  rw [show stunB c m id al=false by simpa using hb] at cR
  (refine hp.kalloc z24 fun al24 w hp hx=>?_; conv=>whnf)
  (refine hKq _ _ _ (.refl _) ?_; clear hKq Kq; conv=>whnf)
  (refine VSeq.mk fun Kq hKq=>?_; conv=>whnf)
  (refine VSeq.mk fun Kq hKq=>?_; conv=>whnf)
  (refine ⟨_,_,Blk.ldV (vs:=[_,_,_,_]) (hp.get (i:=1) rfl) TTok rfl rfl rfl,?_⟩; conv=>whnf)
  refine V.CallsUse (cR hp.ext) fun w hx=>?_
  try (have hp:=hp.call hx)
  conv=>whnf
  refine hKq _ _ _ (.refl _) ?_
  clear hKq Kq
  conv=>whnf
  (refine And.intro (fun _=>?_) (fun h=>absurd h (by decide)); conv=>whnf)
  (refine VSeq.mk fun Kq hKq=>?_; conv=>whnf)
  (refine ⟨_,_,bld24_ _,?_⟩; conv=>whnf)
  (refine hp.kstA TTok rfl 0 rfl rfl (oneC_of rfl) (by rfl) fun w hp=>?_; try simp only [List.set_cons_zero,List.set_cons_succ,EV.val] at hp; conv=>whnf)
  (refine hKq _ _ _ (.refl _) ?_; clear hKq Kq; conv=>whnf)
  (refine ⟨_,Blk.lvN (hp.get (i:=0) rfl) TTok rfl rfl,?_⟩; conv=>whnf)
  exact .inr ⟨by omega,by rw [hF]; rfl,hp.ext⟩
set_option maxHeartbeats 4000000
structure Ms8 where
 c:Int
 m:Int
 id:ByteArray
 al:List At2
 p:Option Addr
 k:Nat
def Ms8.v (x:Ms8):Value:=.slice x.p x.al.length x.k
def Ms8.cs (x:Ms8):List Value:=[.int .i64 x.c,.int .i64 x.m,.string x.id,x.v]
def Ms8.Ok (x:Ms8) (w:World):Prop:=MsOk x.id x.al∧SA w x.v x.al
theorem Ms8.Ok.ext {x:Ms8} {w w':World} (h:x.Ok w) (hx:Ext w w'):x.Ok w':=⟨h.1,h.2.ext hx⟩
def mflat (l:List Ms8):List Value:=l.flatMap Ms8.cs
theorem mflat_app (a b:List Ms8):mflat (a++b)=mflat a++mflat b:=by unfold mflat; rw [List.flatMap_append]
theorem mflat_at:∀ (l:List Ms8) (j:Nat) (a:Ms8),l[j]? = some a→((mflat l).drop (j * 4)).take 4=a.cs
 | [],j,a,h=>by simp at h
 | b :: l,0,a,h=>by
  have:b=a:=by simpa using h
  subst this
  rfl
 | b :: l,j+1,a,h=>by
  have h2:l[j]? = some a:=by simpa using h
  have:=mflat_at l j a h2
  show ((b.cs++mflat l).drop ((j+1) * 4)).take 4=_
  rw [show (j+1) * 4=b.cs.length+j * 4 by show _=4+_; omega,← List.drop_drop,List.drop_left]
  exact this
/-- a message of a row -/
theorem mrow_at {w:World} {p:Option Addr} {n c:Nat} {l:List Ms8} (h:(row 24 4 (.slice p n c) n (mflat l)).holds w) {j:Nat} {a:Ms8} (hj:l[j]? = some a) :
  ∃ g,p=some ⟨g,0,none⟩∧∀ w',Ext w w'→(Instr.loadAt 24 (.pointer (some ⟨g,addM 0 j 4,none⟩))).run Tryz.prog w' = .ok (.agg #[.int .i64 a.c,.int .i64 a.m,.string a.id,a.v]) w':=by
 have h0:=h
 obtain ⟨h1,h2⟩:w.ownsRow 0 24 4 (.slice p n c) n (mflat l):=h
 have h3:=mflat_at l j a hj
 rcases h2 with ⟨hv,hn⟩ | ⟨g,cap,cur,hv,_⟩
 ·have:mflat l=[]:=List.eq_nil_of_length_eq_zero (by rw [h1,hn])
  rw [this] at h3
  simp [Ms8.cs] at h3
 ·simp only [Value.slice.injEq] at hv
  obtain ⟨rfl,-,rfl⟩:=hv
  refine ⟨g,rfl,fun w' hx=>run_ldN TTok rfl (vs:=a.cs) rfl fun i y hy=>Ext.cell hx ?_⟩
  have hi:i < 4:=(List.getElem?_eq_some_iff.1 hy).1
  rw [addM_eq,Nat.zero_add]
  exact row_cell h0 (by
   rw [← h3,List.getElem?_take,if_pos hi,List.getElem?_drop] at hy
   exact hy)
def MsgY (W:World) (c m:Int) (id:ByteArray) (L:List At2) (e:Ending) (w':World):Prop :=
 ∃ v,e = .returned (.tuple #[.agg #[.int .i64 c,.int .i64 m,.string id,v],.int .i64 0])∧HpM [] W w' [row 54 2 v L.length (flatC L)]
def MsgN (W:World) (C:Nat) (e:Ending) (w':World):Prop:=e = .returned (.tuple #[zStun,.int .i64 C])∧Ext W w'
theorem Msg8.y {W:World} {c m:Int} {id:ByteArray} {C:Nat} {L:List At2} {e:Ending} {w':World} (h:Msg8 W c m id C L e w') (hC:C=0):MsgY W c m id L e w':=by
 rcases h with ⟨_,h⟩ | ⟨h,_⟩
 ·exact h
 ·exact absurd hC h
theorem Msg8.n {W:World} {c m:Int} {id:ByteArray} {C:Nat} {L:List At2} {e:Ending} {w':World} (h:Msg8 W c m id C L e w') (hC:C≠0):MsgN W C e w':=by
 rcases h with ⟨h,_⟩ | ⟨_,h⟩
 ·exact absurd h hC
 ·exact h
theorem Msg8.of {W:World} {c m:Int} {id:ByteArray} {C:Nat} {L:List At2} {e:Ending} {w':World} (h:∃ u,e = .returned u∧Msg8 W c m id C L (.returned u) w'):Msg8 W c m id C L e w':=by
 obtain ⟨_,rfl,h⟩:=h
 exact h
def keepB (a:At2):Bool:=!decide (a.1=8) && !decide (a.1=32808)
def filL (al:List At2):List At2:=al.filter keepB
theorem filL_take {al:List At2} {i:Nat} {a:At2} (h:al[i]? = some a):filL (al.take (i+1))=filL (al.take i)++(if keepB a=true then [a] else []):=by
 unfold filL
 rw [List.take_add_one,h,List.filter_append]
 congr 1
 show List.filter keepB [a]=_
 cases hk:keepB a <;> simp [List.filter,hk]
theorem filL_len (al:List At2):(filL al).length≤al.length:=List.length_filter_le _ _
theorem filL_ok {c m:Nat} {id:ByteArray} {al:List At2} {c2 m2:Nat} {id2:ByteArray} {bl:List At2} (h:DrOk c m id al) (h2:DrOk c2 m2 id2 bl):DrOk c m id (filL bl):=by
 have:=filL_len bl
 have:=h2.len
 exact ⟨h.c,h.m,h.id,by omega,fun a ha=>h2.each a (List.mem_filter.1 ha).1⟩
theorem filL_has (al:List At2):hasB 8 (filL al)=false∧hasB 32808 (filL al)=false:=by
 unfold hasB filL
 constructor
 ·rw [List.any_eq_false]
  intro a ha
  have:=(List.mem_filter.1 ha).2
  unfold keepB at this
  unfold kindB
  simp at this ⊢
  exact this.1
 ·rw [List.any_eq_false]
  intro a ha
  have:=(List.mem_filter.1 ha).2
  unfold keepB at this
  unfold kindB
  simp at this ⊢
  exact this.2
theorem hasB_app (k:Int) (a b:List At2):hasB k (a++b)=(hasB k a || hasB k b):=by unfold hasB; rw [List.any_append]
/-- a drafted message with a few attributes more is valid -/
theorem dr_more {c m:Nat} {id:ByteArray} {fl tl:List At2} (h:DrOk c m id fl) (ht:tl.length≤3) (hz:∀ a∈tl,attrB a=true∧a.2.size≤60):stunB c m id (fl++tl)=true:=by
 have hs:=(stunB_t h.stun).2.2.2.2.2.2.1
 have h1:=sizeN_le60 fl fun a ha=>(h.each a ha).2.2
 have h2:=sizeN_le60 tl fun a ha=>(hz a ha).2
 have:=h.len
 have:=h.c
 have:=h.m
 refine stunB_of (by omega) (by omega) (by omega) (by omega) h.id (by rw [List.length_append]; omega) (fun a ha=>?_) (by rw [sizeN_app]; omega)
 rcases List.mem_append.1 ha with h | h
 ·exact hs a h
 ·exact (hz a h).1
end Go.Proofs.YtmlmfmdmomegpaaGreatDoor
