/- Chapter 08: StunGuards. -/
/- Chapter 08: StunGuards, from the law's data. -/
/- The Go function StunGuards answers true for every input: Protect, Verify, Mark and Marked agree with the reference, for arbitrary, drafted, changed, protected and marked messages and all keys. -/
import Derived.Test.YtmlmfmdmomegpaaGreatDoorGU10
import Derived.Test.YtmlmfmdmomegpaaGreatDoorGU12
import Derived.Test.YtmlmfmdmomegpaaGreatDoorCards
import Derived.Test.YtmlmfmdmomegpaaGreatDoorTie
import Derived.SevenTiedAt
import Derived.Stop.Joined
import Derived.LaidMore
import Derived.Lay
import Derived.MakeChecks
import Derived.Test.YtmlmfmdmomegpaaGreatDoorRows
import Derived.WalkKit
import Derived.ProofKit
import Derived.OpenShut
import Derived.SizedLaws
import Derived.ShutString
import Derived.ChangeOld
import Derived.Below
import Derived.Test.YtmlmfmdmomegpaaGreatDoorGU03
namespace Go.Proofs.YtmlmfmdmomegpaaGreatDoor
set_option linter.unusedSimpArgs false
set_option linter.unusedVariables false
set_option maxRecDepth 100000
open Go.RowKit V
set_option maxHeartbeats 51200000
theorem sl34 (w:World) (b:Nat):(Instr.sliceAt 34 (.pointer (some ⟨b,0,none⟩)) none none none).run Tryz.prog w = .ok (.slice (some ⟨b,0,none⟩) 4 4) w:=by kernel_rfl
theorem guards_c {W:World} {v0 v1:Value} {rl:List At2} {ps:List Pc3} (rc rm:Int) (rid:ByteArray) (hv0:SA W v0 rl) (hrid:rid.size≤maxLen) (hrl:∀ a∈rl,AtOk a)
  (c8 m16:Nat) (id0:ByteArray) (hv:SPc W v1 ps) (hps:∀ p∈ps,PcOk p) (hc8:c8 < 256) (hm16:m16 < 65536) (hid:id0.size≤maxLen)
  (wh at_:Nat) (N:Int) (S:ByteArray) (hwh:wh < 256) (hat:at_ < 256) (hN:in8 N) (hS:S.size≤maxLen) (wh2 at2:Nat) (N2:Int) (S2:ByteArray) (hwh2:wh2 < 256) (hat2:at2 < 256) (hN2:in8 N2) (hS2:S2.size≤maxLen)
  (key0:ByteArray) (hkey:key0.size≤maxLen) (lg:Bool) :
  Calls Tryz.prog 10 #[.agg #[.int .i64 rc,.int .i64 rm,.string rid,v0],.agg #[.int .u8 c8,.int .u16 m16,.string id0,v1],.agg #[.int .u8 wh,.int .u8 at_,.int .i64 N,.string S],.agg #[.int .u8 wh2,.int .u8 at2,.int .i64 N2,.string S2],.string key0,.bool lg] W fun e w'=>e = .returned (.bool true)∧Ext W w':=by
 have ms:=fun {w:World} (hx:Ext W w)=>messages16_c (W:=w) rc rm rid (hv0.ext hx) hrid hrl c8 m16 id0 (SLn.ext hv hx) hps hc8 hm16 hid wh at_ N S hwh hat hN hS wh2 at2 N2 S2 hwh2 hat2 hN2 hS2
 have b1:=fun {w:World} {v:Value} {al:List At2} c m id h1 h2 h3 h4=>bend_c (W:=w) (v:=v) (al:=al) wh at_ N S c m id hwh hat hN hS h1 h2 h3 h4
 have b2:=fun {w:World} {v:Value} {al:List At2} c m id h1 h2 h3 h4=>bend_c (W:=w) (v:=v) (al:=al) wh2 at2 N2 S2 c m id hwh2 hat2 hN2 hS2 h1 h2 h3 h4
 obtain ⟨p0,cp0,rfl⟩:=hv0.shape
 obtain ⟨p1,cp1,rfl⟩:=SPc.shape hv
 refine v_reads (args:=[.agg #[.int .i64 rc,.int .i64 rm,.string rid,.slice p0 rl.length cp0],.agg #[.int .u8 c8,.int .u16 m16,.string id0,.slice p1 ps.length cp1],.agg #[.int .u8 wh,.int .u8 at_,.int .i64 N,.string S],.agg #[.int .u8 wh2,.int .u8 at2,.int .i64 N2,.string S2],.string key0,.bool lg]) TTok FFok Tryz.func10 rfl rfl ?_
 conv=>whnf
 refine VSeq.mk fun Kq hKq=>?_
 conv=>whnf
 have hp:=Hp.nil W
 refine hp.kboxA fun q6 w hp hx=>?_
 conv=>whnf
 refine hp.kboxA fun q7 w hp hx=>?_
 conv=>whnf
 refine hp.kboxA fun q8 w hp hx=>?_
 conv=>whnf
 refine hp.kboxA fun q9 w hp hx=>?_
 conv=>whnf
 refine hKq _ _ _ (.refl _) ?_
 clear hKq Kq
 conv=>whnf
 refine VSeq.mk fun Kq hKq=>?_
 conv=>whnf
 refine VSeq.mk fun Kq hKq=>?_
 conv=>whnf
 refine PureF.use (works_p) fun w hx=>?_
 try (have hp:=hp.call hx)
 conv=>whnf
 refine hKq _ _ _ (.refl _) ?_
 clear hKq Kq
 conv=>whnf
 refine And.intro (fun h=>by cases h) (fun _=>?_)
 conv=>whnf
 refine hKq _ _ _ (.refl _) ?_
 clear hKq Kq
 conv=>whnf
 refine VSeq.mk fun Kq hKq=>?_
 conv=>whnf
 unfold maxLen at hkey
 refine ⟨min key0.size 100,⟨by omega,by omega⟩,?_⟩
 conv=>whnf
 refine hKq _ _ _ (.refl _) ?_
 clear hKq Kq
 conv=>whnf
 refine VSeq.mk fun Kq hKq=>?_
 conv=>whnf
 refine VSeq.mk fun Kq hKq=>?_
 conv=>whnf
 refine hKq _ _ _ (.refl _) ?_
 clear hKq Kq
 conv=>whnf
 have zk:=size_extract key0 0 (min key0.size 100) (by omega)
 generalize key0.extract 0 (min key0.size 100)=key at *
 have hzk:key.size≤100:=by omega
 clear zk
 have key1:∀ (key:ByteArray) (l:Env) (w:World),key.size≤4097→V.Sub [(4,.v (.string key)),(6,.v (.pointer (some ⟨q6,0,none⟩))),(7,.v (.pointer (some ⟨q7,0,none⟩))),(8,.v (.pointer (some ⟨q8,0,none⟩))),(9,.v (.pointer (some ⟨q9,0,none⟩)))] l→HpM [] W w [blk q9 [.int .u8 wh2,.int .u8 at2,.int .i64 N2,.string S2] 30,blk q8 [.int .u8 wh,.int .u8 at_,.int .i64 N,.string S] 30,blk q7 [.int .u8 c8,.int .u16 m16,.string id0,.slice p1 ps.length cp1] 28,blk q6 [.int .i64 rc,.int .i64 rm,.string rid,.slice p0 rl.length cp0] 24]→Kq l w:=by
  clear hp hx hzk key
  repeat clear hp
  intro key l w hzk hs hp
  refine hKq _ _ _ hs ?_
  clear hKq Kq hs
  conv=>whnf
  (refine VSeq.mk fun Kq hKq=>?_; conv=>whnf)
  refine Calls.mono rConst_c ?_
  rintro _ wC ⟨_,rfl,⟨vS,vK,rfl,tS,tK⟩,hx⟩
  refine ⟨_,rfl,?_⟩
  obtain ⟨pS,cS,rfl⟩:=tS.shape
  obtain ⟨pK,cK,rfl⟩:=tK.shape
  have hpC:=hp.call hx
  have hxC:=hpC.ext
  have hB9:Blk wC q9 [.int .u8 wh2,.int .u8 at2,.int .i64 N2,.string S2] 30:=hpC.get (i:=0) rfl
  have hB8:Blk wC q8 [.int .u8 wh,.int .u8 at_,.int .i64 N,.string S] 30:=hpC.get (i:=1) rfl
  have hB7:Blk wC q7 _ _:=hpC.get (i:=2) rfl
  have hB6:Blk wC q6 _ _:=hpC.get (i:=3) rfl
  clear hpC hx hp
  repeat clear hp
  have hp:=Hp.nil wC
  conv=>whnf
  (refine hp.kalloc z105 fun al105 w hp hx=>?_; conv=>whnf)
  (refine hp.kstA TTok rfl 0 rfl rfl (oneC_of rfl) (by rfl) fun w hp=>?_; try simp only [List.set_cons_zero,List.set_cons_succ,EV.val] at hp; conv=>whnf)
  (refine hKq _ _ _ (.refl _) ?_; clear hKq Kq; conv=>whnf)
  (refine VSeq.mk fun Kq hKq=>?_; conv=>whnf)
  (refine ⟨_,_,Blk.ldN (hB6.ext hp.ext) TTok rfl rfl,?_⟩; conv=>whnf)
  (refine ⟨_,_,Blk.ldN (hB7.ext hp.ext) TTok rfl rfl,?_⟩; conv=>whnf)
  (refine ⟨_,_,Blk.ldN (hB8.ext hp.ext) TTok rfl rfl,?_⟩; conv=>whnf)
  (refine ⟨_,_,Blk.ldN (hB9.ext hp.ext) TTok rfl rfl,?_⟩; conv=>whnf)
  obtain ⟨b13,rfl⟩:∃ q,q=al105:=⟨al105,rfl⟩
  refine Calls.mono (ms (hxC.trans hp.ext)) ?_
  clear ms
  rintro _ wF ⟨A,rfl,hF,hx⟩
  refine ⟨_,rfl,?_⟩
  have hpF:=hp.call hx
  have hxF:=hxC.trans hpF.ext
  have hB9:=hB9.ext hpF.ext
  have hB8:=hB8.ext hpF.ext
  have tS:=tS.ext hpF.ext
  have tK:=tK.ext hpF.ext
  have hB13:Blk wF b13 [.slice pS (kw .i64 SL).length cS,.slice pK (kw .i64 KL).length cK] 105:=hpF.get (i:=0) rfl
  clear hpF hx hp hB6 hB7 hv0 hv hxC
  repeat clear hp
  obtain ⟨c0,m0,c1,m1,c2,m2,c3,m3,i0,i1,i2,i3,l0,l1,l2,l3,p0,p1,p2,p3,k0,k1,k2,k3,rfl,h0,h1,h2,h3,dc,dm,rfl,rfl,hd⟩:=hF
  have hp:=Hp.nil wF
  conv=>whnf
  (refine hp.kalloc z34 fun al34 w hp hx=>?_; conv=>whnf)
  (refine hp.kstA TTok rfl 0 rfl rfl (oneC_of rfl) (by rfl) fun w hp=>?_; try simp only [List.set_cons_zero,List.set_cons_succ,EV.val] at hp; conv=>whnf)
  (refine hKq _ _ _ (.refl _) ?_; clear hKq Kq; conv=>whnf)
  (refine VSeq.mk fun Kq hKq=>?_; conv=>whnf)
  obtain ⟨b14,rfl⟩:∃ q,q=al34:=⟨al34,rfl⟩
  refine ⟨_,_,sl34 _ _,?_⟩
  conv=>whnf
  refine hKq _ _ _ (.refl _) ?_
  clear hKq Kq
  conv=>whnf
  refine VSeq.mk fun Kq hKq=>?_
  conv=>whnf
  (refine ⟨1,⟨rfl,by decide⟩,?_⟩; conv=>whnf)
  (refine ⟨_,_,Blk.ldV (vs:=[_,_,_,_]) (hp.get (i:=0) rfl) TTok rfl rfl rfl,?_⟩; conv=>whnf)
  (refine hp.kalloc z24 fun al24 w hp hx=>?_; conv=>whnf)
  (refine hp.kstA TTok rfl 0 rfl rfl (oneC_of rfl) (by rfl) fun w hp=>?_; try simp only [List.set_cons_zero,List.set_cons_succ,EV.val] at hp; conv=>whnf)
  (refine hKq _ _ _ (.refl _) ?_; clear hKq Kq; conv=>whnf)
  (refine VSeq.mk fun Kq hKq=>?_; conv=>whnf)
  (refine hp.kst1 TTok (by rfl) 0 (by rfl) (by rfl) (by rfl) (Nat.le_of_ble_eq_true rfl) fun w hp=>?_; try simp only [List.set_cons_zero,List.set_cons_succ,EV.val] at hp; conv=>whnf)
  (refine hKq _ _ _ (.refl _) ?_; clear hKq Kq; conv=>whnf)
  (refine VSeq.mk fun Kq hKq=>?_; conv=>whnf)
  (refine VSeq.mk fun Kq hKq=>?_; conv=>whnf)
  (refine ⟨1,⟨rfl,by decide⟩,?_⟩; conv=>whnf)
  (refine ⟨_,_,Blk.ld (hp.get (i:=1) rfl) TTok rfl rfl,?_⟩; conv=>whnf)
  (refine hKq _ _ _ (.refl _) ?_; clear hKq Kq; conv=>whnf)
  obtain ⟨b16,rfl⟩:∃ q,q=al24:=⟨al24,rfl⟩
  have hp:=hp.knil 54 2
  have hp:HpM [] wF w [row 54 2 (.slice none 0 0) 0 (flatC []),blk b16 [.int .i64 dc,.int .i64 dm,.string i1,.slice none 0 0] 24,blk b14 [.int .i64 c0,.int .i64 m0,.string i0,.slice p0 l0.length k0,.int .i64 dc,.int .i64 dm,.string i1,.slice p1 l1.length k1,.int .i64 c2,.int .i64 m2,.string i2,.slice p2 l2.length k2,.int .i64 c3,.int .i64 m3,.string i3,.slice p3 l3.length k3] 34]:=hp
  have fO:=filL_ok hd hd
  obtain ⟨f8,f9⟩:=filL_has l1
  have hlb:=hd.len
  refine ⟨fun mm e w'=>∃ (i:Nat) (u:Value),mm+i=l1.length∧e=[(4,.v (.string key)),(8,.v (.pointer (some ⟨q8,0,none⟩))),(9,.v (.pointer (some ⟨q9,0,none⟩))),(13,.v (.pointer (some ⟨b13,0,none⟩))),(15,.v (.slice (some ⟨b14,0,none⟩) 4 4)),(16,.v (.pointer (some ⟨b16,0,none⟩))),(62,.v (.slice p1 l1.length k1)),(63,.v (.int .i64 l1.length)),(64,.v (.int .i64 i))]∧HpM [] wF w' [row 54 2 u (filL (l1.take i)).length (flatC (filL (l1.take i))),blk b16 [.int .i64 dc,.int .i64 dm,.string i1,u] 24,blk b14 [.int .i64 c0,.int .i64 m0,.string i0,.slice p0 l0.length k0,.int .i64 dc,.int .i64 dm,.string i1,.slice p1 l1.length k1,.int .i64 c2,.int .i64 m2,.string i2,.slice p2 l2.length k2,.int .i64 c3,.int .i64 m3,.string i3,.slice p3 l3.length k3] 34],
   ⟨l1.length,_,⟨0,_,by omega,rfl,hp⟩,sub_cons rfl (sub_cons rfl (sub_cons rfl (sub_cons rfl (sub_cons rfl (sub_cons rfl (sub_cons rfl (sub_cons rfl (sub_cons rfl sub_nil))))))))⟩,?_⟩
  clear hp hx
  repeat clear hp
  rintro mm _ w ⟨i,u,hmm,rfl,hp⟩
  obtain ⟨pu,cu,rfl⟩:=row_shape (hp.get (i:=0) rfl)
  have hfl:=filL_len (l1.take i)
  have htl:(l1.take i).length≤l1.length:=by rw [List.length_take]; omega
  conv=>whnf
  refine VSeq.mk fun Kq hKq=>?_
  conv=>whnf
  refine hKq _ _ _ (.refl _) ?_
  clear hKq Kq
  conv=>whnf
  refine VSeq.mk fun Kq hKq=>?_
  conv=>whnf
  refine ⟨fun hlt=>?_,fun hlt=>?_⟩
  ·have hlt:=of_decide_eq_true hlt
   conv=>whnf
   refine hKq _ _ _ (.refl _) ?_
   clear hKq Kq
   conv=>whnf
   refine VSeq.mk fun Kq hKq=>?_
   conv=>whnf
   refine VSeq.mk fun Kq hKq=>?_
   conv=>whnf
   obtain ⟨a,hai⟩:∃ a,l1[i]? = some a:=⟨l1[i]'(by omega),List.getElem?_eq_getElem (by omega)⟩
   have hst:=filL_take hai
   obtain ⟨g,off,he,hld⟩:=(h1.2.ext hp.ext).at hai
   obtain rfl:=he
   obtain ⟨k,t⟩:=a
   dsimp only at hld
   have hfc:flatC (filL (l1.take i))++[.int .i64 k,.string t]=flatC (filL (l1.take i)++[(k,t)]):=by rw [flatC_app]; rfl
   generalize filL (l1.take i)=fl at *
   refine ⟨i,⟨by first | rfl | omega,by show i < l1.length; omega⟩,?_⟩
   conv=>whnf
   refine ⟨_,_,hld,?_⟩
   conv=>whnf
   refine hp.kalloc z54 fun a9 w hp hx=>?_
   conv=>whnf
   (refine hp.kstA TTok rfl 0 rfl rfl (oneC_of rfl) (by rfl) fun w hp=>?_; try simp only [List.set_cons_zero,List.set_cons_succ,EV.val] at hp; conv=>whnf)
   (refine hKq _ _ _ (.refl _) ?_; clear hKq Kq; conv=>whnf)
   (refine VSeq.mk fun Kq hKq=>?_; conv=>whnf)
   (refine VSeq.mk fun Kq hKq=>?_; conv=>whnf)
   (refine ⟨_,_,Blk.ld (hp.get (i:=0) rfl) TTok rfl rfl,?_⟩; conv=>whnf)
   (refine hKq _ _ _ (.refl _) ?_; clear hKq Kq; conv=>whnf)
   by_cases h8:k=8
   ·have hkb:keepB (k,t)=false:=by unfold keepB; simp [h8]
    rw [hkb,if_neg (by decide),List.append_nil] at hst
    (refine And.intro (fun h=>absurd (of_decide_eq_true h) (by first | (intro h2; exact absurd rfl h2) | omega | decide)) (fun _=>?_); conv=>whnf)
    (refine hKq _ _ _ (.refl _) ?_; clear hKq Kq; conv=>whnf)
    (refine hKq _ _ _ (.refl _) ?_; clear hKq Kq; conv=>whnf)
    (refine Or.inl (And.intro (by first | omega | decide) ?_); conv=>whnf)
    exact ⟨mm - 1,_,by omega,⟨i+1,_,by omega,rfl,by rw [hst]; exact hp.pick [1,2,3] (by decide)⟩,sub_cons rfl (sub_cons rfl (sub_cons rfl (sub_cons rfl (sub_cons rfl (sub_cons rfl (sub_cons rfl (sub_cons rfl (sub_cons rfl sub_nil))))))))⟩
   ·by_cases h3:k=32808
    ·have hkb:keepB (k,t)=false:=by unfold keepB; simp [h3]
     rw [hkb,if_neg (by decide),List.append_nil] at hst
     (refine And.intro (fun _=>?_) (fun h=>absurd (by first | rfl | assumption | omega | decide) (of_decide_eq_false h)); conv=>whnf)
     (refine ⟨_,_,Blk.ld (hp.get (i:=0) rfl) TTok rfl rfl,?_⟩; conv=>whnf)
     (refine hKq _ _ _ (.refl _) ?_; clear hKq Kq; conv=>whnf)
     (refine And.intro (fun h=>absurd (of_decide_eq_true h) (by first | (intro h2; exact absurd rfl h2) | omega | decide)) (fun _=>?_); conv=>whnf)
     (refine hKq _ _ _ (.refl _) ?_; clear hKq Kq; conv=>whnf)
     (refine Or.inl (And.intro (by first | omega | decide) ?_); conv=>whnf)
     exact ⟨mm - 1,_,by omega,⟨i+1,_,by omega,rfl,by rw [hst]; exact hp.pick [1,2,3] (by decide)⟩,sub_cons rfl (sub_cons rfl (sub_cons rfl (sub_cons rfl (sub_cons rfl (sub_cons rfl (sub_cons rfl (sub_cons rfl (sub_cons rfl sub_nil))))))))⟩
    ·have hkb:keepB (k,t)=true:=by unfold keepB; simp [h8,h3]
     rw [hkb,if_pos rfl] at hst
     (refine And.intro (fun _=>?_) (fun h=>absurd (by first | rfl | assumption | omega | decide) (of_decide_eq_false h)); conv=>whnf)
     (refine ⟨_,_,Blk.ld (hp.get (i:=0) rfl) TTok rfl rfl,?_⟩; conv=>whnf)
     (refine hKq _ _ _ (.refl _) ?_; clear hKq Kq; conv=>whnf)
     (refine And.intro (fun _=>?_) (fun h=>absurd (by first | rfl | assumption | omega | decide) (of_decide_eq_false h)); conv=>whnf)
     (refine ⟨_,_,Blk.ld (hp.get (i:=2) rfl) TTok rfl rfl,?_⟩; conv=>whnf)
     (refine ⟨_,_,Blk.ldV (vs:=[_,_]) (hp.get (i:=0) rfl) TTok rfl rfl rfl,?_⟩; conv=>whnf)
     (refine hp.kmade _ _ (fun b=>.slice (some ⟨b,0,none⟩) 1 1) (mks22_1_0 _ _ _) fun q w hp hx=>?_; conv=>whnf)
     refine hp.kapp sl22 2 rfl (Blk.src TTok (hp.get (i:=0) rfl) rfl (m:=1) rfl (oneC_of rfl)) (by omega) (by unfold maxLen; omega) fun v' w hp=>?_
     simp only [List.set_cons_zero,List.set_cons_succ] at hp
     rw [hfc] at hp
     obtain ⟨p1,c1,rfl⟩:=row_shape (hp.get (i:=2) rfl)
     conv=>whnf
     (refine hp.kst1 TTok (by rfl) 3 (by rfl) (by rfl) (by rfl) (Nat.le_of_ble_eq_true rfl) fun w hp=>?_; try simp only [List.set_cons_zero,List.set_cons_succ,EV.val] at hp; conv=>whnf)
     (refine hKq _ _ _ (.refl _) ?_; clear hKq Kq; conv=>whnf)
     (refine Or.inl (And.intro (by first | omega | decide) ?_); conv=>whnf)
     exact ⟨mm - 1,_,by omega,⟨i+1,_,by omega,rfl,by rw [hst,List.length_append]; exact hp.pick [2,3,4] (by decide)⟩,sub_cons rfl (sub_cons rfl (sub_cons rfl (sub_cons rfl (sub_cons rfl (sub_cons rfl (sub_cons rfl (sub_cons rfl (sub_cons rfl sub_nil))))))))⟩
  ·have hlt:=of_decide_eq_false hlt
   conv=>whnf
   clear hKq Kq
   refine hKq _ _ _ (.refl _) ?_
   clear hKq Kq
   conv=>whnf
   refine VSeq.mk fun Kq hKq=>?_
   conv=>whnf
   refine VSeq.mk fun Kq hKq=>?_
   conv=>whnf
   obtain rfl:i=l1.length:=by omega
   rw [List.take_of_length_le (Nat.le_refl _)] at hp
   clear hfl htl
   generalize filL l1=fl at *
   clear hlt hmm hlb
   have kF:=fO.stun
   have fl6:=fO.len
   have hFt:=stunB_t kF
   obtain ⟨M,hM⟩:∃ M,macB key (wrB dc dm i1 fl 36)=M:=⟨_,rfl⟩
   have aM:attrB (8,M)=true∧M.size≤60:=by rw [← hM]; exact ⟨mac_attr _ _,by rw [macB_size]; decide⟩
   have kP:stunB dc dm i1 (fl++[(8,M)])=true:=dr_more fO (by simp) (by intro a ha; rw [List.mem_singleton] at ha; subst ha; exact aM)
   obtain ⟨F,hF⟩:∃ F,fpB (wrB dc dm i1 fl 8)=F:=⟨_,rfl⟩
   have aF:attrB (32808,F)=true∧F.size≤60:=by rw [← hF]; exact ⟨fp_attr _,by rw [fpB_size]; decide⟩
   have kQ:stunB dc dm i1 (fl++[(32808,F)])=true:=dr_more fO (by simp) (by intro a ha; rw [List.mem_singleton] at ha; subst ha; exact aF)
   have hQ0:mrkC dc dm i1 fl=0:=by unfold mrkC; rw [if_pos kF,if_neg (by rw [f9]; decide),Int.toNat_natCast,Int.toNat_natCast,hF,if_pos kQ]
   have hQ1:mrkL dc dm i1 fl=fl++[(32808,F)]:=by unfold mrkL; rw [Int.toNat_natCast,Int.toNat_natCast,hF]
   have hP0:key.size≤4096→proC dc dm i1 key fl=0:=fun hk=>by unfold proC; rw [if_pos kF,if_neg (by omega),if_neg (by rw [f8,f9]; decide),Int.toNat_natCast,Int.toNat_natCast,hM,if_pos kP]
   have hP1:proL dc dm i1 key fl=fl++[(8,M)]:=by unfold proL; rw [Int.toNat_natCast,Int.toNat_natCast,hM]
   have hP2:¬ key.size≤4096→proC dc dm i1 key fl=3:=fun hk=>by unfold proC; rw [if_pos kF,if_pos (by omega)]
   have hR0:mrkC dc dm i1 (fl++[(8,M)])=0∧stunB dc dm i1 (mrkL dc dm i1 (fl++[(8,M)]))=true∧(mrkL dc dm i1 (fl++[(8,M)])).length≤10:=by
    obtain ⟨F2,hF2⟩:∃ F2,fpB (wrB dc dm i1 (fl++[(8,M)]) 8)=F2:=⟨_,rfl⟩
    have aF2:attrB (32808,F2)=true∧F2.size≤60:=by rw [← hF2]; exact ⟨fp_attr _,by rw [fpB_size]; decide⟩
    have k2:stunB dc dm i1 (fl++[(8,M),(32808,F2)])=true:=dr_more fO (by simp) (by
     intro a ha
     rcases List.mem_cons.1 ha with rfl | ha
     ·exact aM
     ·rw [List.mem_singleton] at ha; subst ha; exact aF2)
    have e2:fl++[((8:Int),M),(32808,F2)]=fl++[(8,M)]++[(32808,F2)]:=by simp
    rw [e2] at k2
    have h9:hasB 32808 (fl++[(8,M)])=false:=by rw [hasB_app,f9]; rfl
    refine ⟨by unfold mrkC; rw [if_pos kP,if_neg (by rw [h9]; decide),Int.toNat_natCast,Int.toNat_natCast,hF2,if_pos k2],?_,?_⟩
    ·unfold mrkL; rw [Int.toNat_natCast,Int.toNat_natCast,hF2]; exact k2
    ·unfold mrkL; simp only [List.length_append,List.length_singleton]; omega
   obtain ⟨hR0,hR1,hR2⟩:=hR0
   have cP:=fun {w:World} (hx:SA w (.slice pu fl.length cu) fl) (hy:Ext wF w)=>Protect8_c (W:=w) dc dm i1 key hx (tS.ext hy) (tK.ext hy)
   have cQ:=fun {w:World} (hx:SA w (.slice pu fl.length cu) fl)=>(Mark8_c (W:=w) dc dm i1 hx).mono fun _ _ h=>(Msg8.of h).y hQ0
   have cR:=fun {w:World} {v:Value} (hx:SA w v (fl++[(8,M)]))=>(Mark8_c (W:=w) dc dm i1 hx).mono fun _ _ h=>(Msg8.of h).y hR0
   rw [hQ1] at cQ
   generalize hbq:mrkL dc dm i1 (fl++[(8,M)])=bq at cR hR1 hR2
   clear hR0 hbq hQ0 hQ1
   have okM:∀ {L:List At2},stunB dc dm i1 L=true→MsOk i1 L:=fun h=>by
    have h2:=stunB_t h
    exact ⟨by have:=h2.2.2.2.2.1; unfold maxLen; omega,by have:=h2.2.2.2.2.2.1; omega,fun a ha=>AtOk.of (h2.2.2.2.2.2.2.1 a ha)⟩
   have oi1:i1.size≤maxLen:=(okM kF).id
   (refine ⟨_,_,Blk.ldN (hB13.ext hp.ext) TTok rfl rfl,?_⟩; conv=>whnf)
   (refine ⟨_,_,Blk.ldV (vs:=[_,_,_,_]) (hp.get (i:=1) rfl) TTok rfl rfl rfl,?_⟩; conv=>whnf)
   have key18:∀ (C b19:Nat) (x19:List Value) (Z:List It) (l:Env) (w:World),HpM [] wF w (row 54 2 (.slice pu fl.length cu) fl.length (flatC fl) :: blk b16 [.int .i64 dc,.int .i64 dm,.string i1,.slice pu fl.length cu] 24 :: blk b14 [.int .i64 c0,.int .i64 m0,.string i0,.slice p0 l0.length k0,.int .i64 dc,.int .i64 dm,.string i1,.slice p1 l1.length k1,.int .i64 c2,.int .i64 m2,.string i2,.slice p2 l2.length k2,.int .i64 c3,.int .i64 m3,.string i3,.slice p3 l3.length k3] 34 :: blk b19 x19 24 :: Z)→(C=0→∃ pp cp,x19=[.int .i64 dc,.int .i64 dm,.string i1,.slice pp (fl++[(8,M)]).length cp]∧Z=[row 54 2 (.slice pp (fl++[(8,M)]).length cp) (fl++[(8,M)]).length (flatC (fl++[(8,M)]))])→V.Sub [(4,.v (.string key)),(8,.v (.pointer (some ⟨q8,0,none⟩))),(9,.v (.pointer (some ⟨q9,0,none⟩))),(13,.v (.pointer (some ⟨b13,0,none⟩))),(15,.v (.slice (some ⟨b14,0,none⟩) 4 4)),(16,.v (.pointer (some ⟨b16,0,none⟩))),(19,.v (.pointer (some ⟨b19,0,none⟩))),(20,.v (.int .i64 C))] l→Kq l w:=by
    clear cP hP0 hP1 hP2 hp
    repeat clear hp
    intro C b19 x19 Z l w hp hC hs
    refine hKq _ _ _ hs ?_
    clear hKq Kq hs
    conv=>whnf
    (refine VSeq.mk fun Kq hKq=>?_; conv=>whnf)
    (refine hKq _ _ _ (.refl _) ?_; clear hKq Kq; conv=>whnf)
    have key2:∀ (ML:List Ms8) (Y:It) (ZS:List It) (pg:Option Addr) (n cc:Nat) (l:Env) (w:World),ML.length=n→n≤8→(∀ w,HpM [] wF w ZS→∀ x∈ML,x.Ok w)→HpM [] wF w (Y :: row 54 2 (.slice pu fl.length cu) fl.length (flatC fl) :: blk b16 [.int .i64 dc,.int .i64 dm,.string i1,.slice pu fl.length cu] 24 :: ZS)→(Y=row 24 4 (.slice pg n cc) n (mflat ML)∨Y=blk b14 [.int .i64 c0,.int .i64 m0,.string i0,.slice p0 l0.length k0,.int .i64 dc,.int .i64 dm,.string i1,.slice p1 l1.length k1,.int .i64 c2,.int .i64 m2,.string i2,.slice p2 l2.length k2,.int .i64 c3,.int .i64 m3,.string i3,.slice p3 l3.length k3] 34∧pg=some ⟨b14,0,none⟩∧n=4∧cc=4∧mflat ML=[.int .i64 c0,.int .i64 m0,.string i0,.slice p0 l0.length k0,.int .i64 dc,.int .i64 dm,.string i1,.slice p1 l1.length k1,.int .i64 c2,.int .i64 m2,.string i2,.slice p2 l2.length k2,.int .i64 c3,.int .i64 m3,.string i3,.slice p3 l3.length k3])→V.Sub [(4,.v (.string key)),(9,.v (.pointer (some ⟨q9,0,none⟩))),(13,.v (.pointer (some ⟨b13,0,none⟩))),(15,.v (.slice pg n cc)),(16,.v (.pointer (some ⟨b16,0,none⟩)))] l→Kq l w:=by
     clear hp hC cR hR1 hR2
     repeat clear hp
     intro ML Y ZS pg n cc l w hn hn8 hML hp hY hs
     refine hKq _ _ _ hs ?_
     clear hKq Kq hs
     conv=>whnf
     (refine VSeq.mk fun Kq hKq=>?_; conv=>whnf)
     (refine VSeq.mk fun Kq hKq=>?_; conv=>whnf)
     (refine ⟨_,_,Blk.ldV (vs:=[_,_,_,_]) (hp.get (i:=2) rfl) TTok rfl rfl rfl,?_⟩; conv=>whnf)
     refine Calls.mono (cQ (SA.of_row (hp.get (i:=1) rfl))) ?_
     rintro _ w ⟨v,rfl,hr⟩
     refine ⟨_,rfl,?_⟩
     have hp:=hp.join hr
     clear hr
     simp only [List.cons_append,List.nil_append] at hp
     obtain ⟨pq,cq,rfl⟩:=row_shape (hp.get (i:=0) rfl)
     conv=>whnf
     (refine hp.kalloc z24 fun al24 w hp hx=>?_; conv=>whnf)
     (refine hp.kstA TTok rfl 0 rfl rfl (oneC_of rfl) (by rfl) fun w hp=>?_; try simp only [List.set_cons_zero,List.set_cons_succ,EV.val] at hp; conv=>whnf)
     (refine hKq _ _ _ (.refl _) ?_; clear hKq Kq; conv=>whnf)
     (refine VSeq.mk fun Kq hKq=>?_; conv=>whnf)
     (refine hKq _ _ _ (.refl _) ?_; clear hKq Kq; conv=>whnf)
     (refine And.intro (fun _=>?_) (fun h=>absurd (by first | rfl | assumption | omega | decide) (of_decide_eq_false h)); conv=>whnf)
     obtain ⟨b23,rfl⟩:∃ q,q=al24:=⟨al24,rfl⟩
     have key3:∀ (ML:List Ms8) (pg:Option Addr) (n cc:Nat) (l:Env) (w:World),ML.length=n→n≤10→(∀ x∈ML,x.Ok w)→HpM [] wF w [row 24 4 (.slice pg n cc) n (mflat ML)]→V.Sub [(4,.v (.string key)),(13,.v (.pointer (some ⟨b13,0,none⟩))),(15,.v (.slice pg n cc))] l→Kq l w:=by
      clear hp hY hML hn hn8 fO kF fl6 hFt kP kQ aM aF hd h0 h1 h2 h3 f8 f9 cQ oi1 okM hB8 hB9 b1 b2
      repeat clear hp
      clear ML pg n cc w l
      intro ML pg n cc l w hn hn10 hML hp hs
      refine hKq _ _ _ hs ?_
      clear hKq Kq hs
      conv=>whnf
      have hRow:=hp.get (i:=0) rfl
      have hxG:=hxF.trans hp.ext
      have tS:=tS.ext hp.ext
      have tK:=tK.ext hp.ext
      have hB13:=hB13.ext hp.ext
      clear hp hxF
      repeat clear hp
      obtain ⟨wG,hG⟩:∃ x,x=w:=⟨w,rfl⟩
      rw [← hG] at hRow hxG tS tK hB13 hML ⊢
      clear hG
      have hp:=Hp.nil wG
      (refine VSeq.mk fun Kq hKq=>?_; conv=>whnf)
      (refine VSeq.mk fun Kq hKq=>?_; conv=>whnf)
      (refine hKq _ _ _ (.refl _) ?_; clear hKq Kq; conv=>whnf)
      refine ⟨fun mm e w'=>∃ (k:Nat),mm+k=n∧e=[(4,.v (.string key)),(13,.v (.pointer (some ⟨b13,0,none⟩))),(122,.v (.slice pg n cc)),(123,.v (.int .i64 n)),(124,.v (.int .i64 k))]∧HpM [] wG w' [],
       ⟨n,_,⟨0,by omega,rfl,hp⟩,sub_cons rfl (sub_cons rfl (sub_cons rfl (sub_cons rfl (sub_cons rfl sub_nil))))⟩,?_⟩
      clear hp
      repeat clear hp
      rintro mm _ w ⟨k,hmm,rfl,hp⟩
      have zkx:(key++(⟨#[120]⟩:ByteArray)).size≤5000:=by rw [ByteArray.size_append]; show key.size+1≤5000; omega
      conv=>whnf
      refine VSeq.mk fun Kq hKq=>?_
      conv=>whnf
      refine hKq _ _ _ (.refl _) ?_
      clear hKq Kq
      conv=>whnf
      refine VSeq.mk fun Kq hKq=>?_
      conv=>whnf
      refine ⟨fun hlt=>?_,fun hlt=>?_⟩
      ·have hlt:=of_decide_eq_true hlt
       conv=>whnf
       refine hKq _ _ _ (.refl _) ?_
       clear hKq Kq
       conv=>whnf
       refine VSeq.mk fun Kq hKq=>?_
       conv=>whnf
       refine VSeq.mk fun Kq hKq=>?_
       conv=>whnf
       obtain ⟨x,hxk⟩:∃ a,ML[k]? = some a:=⟨ML[k]'(by omega),List.getElem?_eq_getElem (by omega)⟩
       have xo:=hML x (List.mem_of_getElem? hxk)
       obtain ⟨g,he,hld⟩:=mrow_at hRow hxk
       subst he
       obtain ⟨xc,xm,xid,xal,xp,xk⟩:=x
       have sa:SA wG (.slice xp xal.length xk) xal:=xo.2
       dsimp only [Ms8.v] at hld
       clear xo hML hRow hxk
       refine ⟨k,⟨by first | rfl | omega,by show k < n; omega⟩,?_⟩
       conv=>whnf
       refine ⟨_,_,hld _ hp.ext,?_⟩
       conv=>whnf
       (refine hp.kalloc z24 fun al24 w hp hx=>?_; conv=>whnf)
       (refine hp.kstA TTok rfl 0 rfl rfl (oneC_of rfl) (by rfl) fun w hp=>?_; try simp only [List.set_cons_zero,List.set_cons_succ,EV.val] at hp; conv=>whnf)
       (refine hKq _ _ _ (.refl _) ?_; clear hKq Kq; conv=>whnf)
       (refine VSeq.mk fun Kq hKq=>?_; conv=>whnf)
       (refine ⟨_,_,Blk.ldV (vs:=[_,_,_,_]) (hp.get (i:=0) rfl) TTok rfl rfl rfl,?_⟩; conv=>whnf)
       obtain ⟨b26,rfl⟩:∃ q,q=al24:=⟨al24,rfl⟩
       have vA:=fun {w:World} (key:ByteArray) (hx:Ext wG w)=>Verify_c (W:=w) xc xm xid key (sa.ext hx)
       have vB:=fun {w:World} (key:ByteArray) (hx:Ext wG w)=>Verify8_c (W:=w) xc xm xid key (sa.ext hx) (tS.ext hx) (tK.ext hx)
       have mA:=fun {w:World} (hx:Ext wG w)=>Marked_c (W:=w) xc xm xid (sa.ext hx)
       have mB:=fun {w:World} (hx:Ext wG w)=>Marked8_c (W:=w) xc xm xid (sa.ext hx)
       have pA:=fun {w:World} (hx:Ext wG w)=>Protect_c (W:=w) xc xm xid key (sa.ext hx)
       have pB:=fun {w:World} (hx:Ext wG w)=>Protect8_c (W:=w) xc xm xid key (sa.ext hx) (tS.ext hx) (tK.ext hx)
       have kA:=fun {w:World} (hx:Ext wG w)=>Mark_c (W:=w) xc xm xid (sa.ext hx)
       have kB:=fun {w:World} (hx:Ext wG w)=>Mark8_c (W:=w) xc xm xid (sa.ext hx)
       have hz2:=fun (w:World)=>Same8_c (W:=w) 0 0 ⟨#[]⟩ 0 0 ⟨#[]⟩ SA.nil8 SA.nil8 (fun a ha=>by cases ha) (fun a ha=>by cases ha)
       rw [sameB_t ⟨rfl,rfl,rfl,rfl⟩] at hz2
       have sm:=fun {w:World} {v u:Value} (L:List At2) (hb:stunB xc xm xid L=true) hu hv=>Same8_c (W:=w) (v:=v) (u:=u) (al:=L) (bl:=L) xc xm xid xc xm xid hu hv (fun a ha=>AtOk.of ((stunB_t hb).2.2.2.2.2.2.1 a ha)) (fun a ha=>AtOk.of ((stunB_t hb).2.2.2.2.2.2.1 a ha))
       by_cases hm:proC xc xm xid key xal=0
       ·have hs2:=(proC_ok hm).2
        have k1:=fun {w:World} (hx:Ext wG w)=>(pA (w:=w) hx).mono fun _ _ h=>h.y hm
        have k2:=fun {w:World} (hx:Ext wG w)=>(pB (w:=w) hx).mono fun _ _ h=>(Msg8.of h).y hm
        clear pA pB
        generalize proL xc xm xid key xal=L at hs2 k1 k2
        have sm2:=fun {w:World} {v u:Value} hu hv=>sm (w:=w) (v:=v) (u:=u) L hs2 hu hv
        rw [sameB_t ⟨rfl,rfl,rfl,rfl⟩] at sm2
        refine Calls.mono (k1 hp.ext) ?_
        rintro _ w ⟨v,rfl,hr⟩
        refine ⟨_,rfl,?_⟩
        have hp:=hp.join hr
        clear hr
        simp only [List.cons_append,List.nil_append] at hp
        obtain ⟨p1,c1,rfl⟩:=row_shape (hp.get (i:=0) rfl)
        conv=>whnf
        (refine hp.kalloc z24 fun al24 w hp hx=>?_; conv=>whnf)
        (refine hp.kstA TTok rfl 0 rfl rfl (oneC_of rfl) (by rfl) fun w hp=>?_; try simp only [List.set_cons_zero,List.set_cons_succ,EV.val] at hp; conv=>whnf)
        (refine hKq _ _ _ (.refl _) ?_; clear hKq Kq; conv=>whnf)
        (refine VSeq.mk fun Kq hKq=>?_; conv=>whnf)
        (refine ⟨_,_,Blk.ldN (hB13.ext hp.ext) TTok rfl rfl,?_⟩; conv=>whnf)
        (refine ⟨_,_,Blk.ldV (vs:=[_,_,_,_]) (hp.get (i:=2) rfl) TTok rfl rfl rfl,?_⟩; conv=>whnf)
        refine Calls.mono (k2 hp.ext) ?_
        rintro _ w ⟨v,rfl,hr⟩
        refine ⟨_,rfl,?_⟩
        have hp:=hp.join hr
        clear hr
        simp only [List.cons_append,List.nil_append] at hp
        obtain ⟨p2,c2,rfl⟩:=row_shape (hp.get (i:=0) rfl)
        conv=>whnf
        (refine hp.kalloc z24 fun al24 w hp hx=>?_; conv=>whnf)
        (refine hp.kstA TTok rfl 0 rfl rfl (oneC_of rfl) (by rfl) fun w hp=>?_; try simp only [List.set_cons_zero,List.set_cons_succ,EV.val] at hp; conv=>whnf)
        (refine hKq _ _ _ (.refl _) ?_; clear hKq Kq; conv=>whnf)
        (refine VSeq.mk fun Kq hKq=>?_; conv=>whnf)
        (refine VSeq.mk fun Kq hKq=>?_; conv=>whnf)
        clear hm hs2 k1 k2
        refine v_mixA TTok FFok mixed [(0,false),(1,false),(2,false),(3,false),(4,false),(5,false),(6,false),(7,false),(8,false),(9,false),(10,false),(11,false),(12,false),(13,false),(14,false),(15,false),(16,false),(17,false),(18,false),(19,false),(20,false),(21,false),(22,false),(23,false),(24,false),(25,false),(26,false),(27,false),(28,false),(29,false),(30,false)] (by kernel_rfl) ?_
        conv=>whnf
        (refine And.intro (fun h=>absurd (of_decide_eq_true h) (by first | (intro h2; exact absurd rfl h2) | omega | decide)) (fun _=>?_); conv=>whnf)
        (refine ⟨_,fun w' hx'=>Blk.ldV (vs:=[_,_,_,_]) (Blk.ext (hp.get (i:=2) rfl) hx') TTok rfl rfl rfl,?_⟩; conv=>whnf)
        (refine ⟨_,fun w' hx'=>Blk.ldV (vs:=[_,_,_,_]) (Blk.ext (hp.get (i:=0) rfl) hx') TTok rfl rfl rfl,?_⟩; conv=>whnf)
        refine ⟨_,fun w1 hx1=>sm2 ((SA.of_row (hp.get (i:=3) rfl)).ext hx1) ((SA.of_row (hp.get (i:=1) rfl)).ext hx1),?_⟩
        conv=>whnf
        (refine And.intro (fun h=>absurd h (by decide)) (fun _=>?_); conv=>whnf)
        (refine ⟨_,fun w' hx'=>Blk.ldV (vs:=[_,_,_,_]) (Blk.ext (hp.get (i:=4) rfl) hx') TTok rfl rfl rfl,?_⟩; conv=>whnf)
        refine ⟨_,fun w1 hx1=>vA key (hp.ext.trans hx1),?_⟩
        conv=>whnf
        refine ⟨_,fun w1 hx1=>Blk.ldN (hB13.ext (hp.ext.trans hx1)) TTok rfl rfl,?_⟩
        conv=>whnf
        (refine ⟨_,fun w' hx'=>Blk.ldV (vs:=[_,_,_,_]) (Blk.ext (hp.get (i:=4) rfl) hx') TTok rfl rfl rfl,?_⟩; conv=>whnf)
        refine ⟨_,fun w1 hx1=>vB key (hp.ext.trans hx1),?_⟩
        conv=>whnf
        (refine And.intro (fun h=>absurd (of_decide_eq_true h) (by first | (intro h2; exact absurd rfl h2) | omega | decide)) (fun _=>?_); conv=>whnf)
        (refine ⟨_,fun w' hx'=>Blk.ldV (vs:=[_,_,_,_]) (Blk.ext (hp.get (i:=4) rfl) hx') TTok rfl rfl rfl,?_⟩; conv=>whnf)
        refine And.intro (by show key.size+1≤_; omega) ?_
        conv=>whnf
        refine ⟨_,fun w1 hx1=>vA (key++(⟨#[120]⟩:ByteArray)) (hp.ext.trans hx1),?_⟩
        conv=>whnf
        refine ⟨_,fun w1 hx1=>Blk.ldN (hB13.ext (hp.ext.trans hx1)) TTok rfl rfl,?_⟩
        conv=>whnf
        (refine ⟨_,fun w' hx'=>Blk.ldV (vs:=[_,_,_,_]) (Blk.ext (hp.get (i:=4) rfl) hx') TTok rfl rfl rfl,?_⟩; conv=>whnf)
        refine And.intro (by show key.size+1≤_; omega) ?_
        conv=>whnf
        refine ⟨_,fun w1 hx1=>vB (key++(⟨#[120]⟩:ByteArray)) (hp.ext.trans hx1),?_⟩
        conv=>whnf
        (intro w hx; try (have hp:=hp.call hx); conv=>whnf)
        (refine hKq _ _ _ (.refl _) ?_; clear hKq Kq; conv=>whnf)
        (refine And.intro (fun h=>absurd (of_decide_eq_true h) (by first | (intro h2; exact absurd rfl h2) | omega | decide)) (fun _=>?_); conv=>whnf)
        (refine hKq _ _ _ (.refl _) ?_; clear hKq Kq; conv=>whnf)
        (refine VSeq.mk fun Kq hKq=>?_; conv=>whnf)
        (refine ⟨_,_,Blk.ldV (vs:=[_,_,_,_]) (hp.get (i:=4) rfl) TTok rfl rfl rfl,?_⟩; conv=>whnf)
        by_cases hm:mrkC xc xm xid xal=0
        ·have hs2:=(mrkC_ok hm).2
         have k1:=fun {w:World} (hx:Ext wG w)=>(kA (w:=w) hx).mono fun _ _ h=>h.y hm
         have k2:=fun {w:World} (hx:Ext wG w)=>(kB (w:=w) hx).mono fun _ _ h=>(Msg8.of h).y hm
         clear kA kB
         generalize mrkL xc xm xid xal=L at hs2 k1 k2
         have sm:=fun {w:World} {v u:Value} hu hv=>sm (w:=w) (v:=v) (u:=u) L hs2 hu hv
         rw [sameB_t ⟨rfl,rfl,rfl,rfl⟩] at sm
         refine Calls.mono (k1 hp.ext) ?_
         rintro _ w ⟨v,rfl,hr⟩
         refine ⟨_,rfl,?_⟩
         have hp:=hp.join hr
         clear hr
         simp only [List.cons_append,List.nil_append] at hp
         obtain ⟨p3,c3,rfl⟩:=row_shape (hp.get (i:=0) rfl)
         conv=>whnf
         (refine hp.kalloc z24 fun al24 w hp hx=>?_; conv=>whnf)
         (refine hp.kstA TTok rfl 0 rfl rfl (oneC_of rfl) (by rfl) fun w hp=>?_; try simp only [List.set_cons_zero,List.set_cons_succ,EV.val] at hp; conv=>whnf)
         (refine hKq _ _ _ (.refl _) ?_; clear hKq Kq; conv=>whnf)
         (refine VSeq.mk fun Kq hKq=>?_; conv=>whnf)
         (refine ⟨_,_,Blk.ldV (vs:=[_,_,_,_]) (hp.get (i:=6) rfl) TTok rfl rfl rfl,?_⟩; conv=>whnf)
         refine Calls.mono (k2 hp.ext) ?_
         rintro _ w ⟨v,rfl,hr⟩
         refine ⟨_,rfl,?_⟩
         have hp:=hp.join hr
         clear hr
         simp only [List.cons_append,List.nil_append] at hp
         obtain ⟨p4,c4,rfl⟩:=row_shape (hp.get (i:=0) rfl)
         conv=>whnf
         (refine hp.kalloc z24 fun al24 w hp hx=>?_; conv=>whnf)
         (refine hp.kstA TTok rfl 0 rfl rfl (oneC_of rfl) (by rfl) fun w hp=>?_; try simp only [List.set_cons_zero,List.set_cons_succ,EV.val] at hp; conv=>whnf)
         (refine hKq _ _ _ (.refl _) ?_; clear hKq Kq; conv=>whnf)
         (refine VSeq.mk fun Kq hKq=>?_; conv=>whnf)
         refine v_mixA TTok FFok mixed [(0,false),(1,false),(2,false),(3,false),(4,false),(5,false),(6,false),(7,false),(8,false),(9,false),(10,false),(11,false),(12,false),(13,false),(14,false),(15,false)] (by kernel_rfl) ?_
         conv=>whnf
         (refine And.intro (fun h=>absurd (of_decide_eq_true h) (by first | (intro h2; exact absurd rfl h2) | omega | decide)) (fun _=>?_); conv=>whnf)
         (refine ⟨_,fun w' hx'=>Blk.ldV (vs:=[_,_,_,_]) (Blk.ext (hp.get (i:=2) rfl) hx') TTok rfl rfl rfl,?_⟩; conv=>whnf)
         (refine ⟨_,fun w' hx'=>Blk.ldV (vs:=[_,_,_,_]) (Blk.ext (hp.get (i:=0) rfl) hx') TTok rfl rfl rfl,?_⟩; conv=>whnf)
         refine ⟨_,fun w1 hx1=>sm ((SA.of_row (hp.get (i:=3) rfl)).ext hx1) ((SA.of_row (hp.get (i:=1) rfl)).ext hx1),?_⟩
         conv=>whnf
         (refine And.intro (fun h=>absurd h (by decide)) (fun _=>?_); conv=>whnf)
         (refine ⟨_,fun w' hx'=>Blk.ldV (vs:=[_,_,_,_]) (Blk.ext (hp.get (i:=8) rfl) hx') TTok rfl rfl rfl,?_⟩; conv=>whnf)
         refine ⟨_,fun w1 hx1=>mA (hp.ext.trans hx1),?_⟩
         conv=>whnf
         (refine ⟨_,fun w' hx'=>Blk.ldV (vs:=[_,_,_,_]) (Blk.ext (hp.get (i:=8) rfl) hx') TTok rfl rfl rfl,?_⟩; conv=>whnf)
         refine ⟨_,fun w1 hx1=>mB (hp.ext.trans hx1),?_⟩
         conv=>whnf
         (intro w hx; try (have hp:=hp.call hx); conv=>whnf)
         (refine hKq _ _ _ (.refl _) ?_; clear hKq Kq; conv=>whnf)
         (refine And.intro (fun h=>absurd (of_decide_eq_true h) (by first | (intro h2; exact absurd rfl h2) | omega | decide)) (fun _=>?_); conv=>whnf)
         (refine hKq _ _ _ (.refl _) ?_; clear hKq Kq; conv=>whnf)
         (refine Or.inl (And.intro (by first | omega | decide) ?_); conv=>whnf)
         exact ⟨mm - 1,_,by omega,⟨k+1,by omega,rfl,hp.sub (List.nil_sublist _)⟩,sub_cons rfl (sub_cons rfl (sub_cons rfl (sub_cons rfl (sub_cons rfl sub_nil))))⟩
        ·have k1:=fun {w:World} (hx:Ext wG w)=>(kA (w:=w) hx).mono fun _ _ h=>h.n hm
         have k2:=fun {w:World} (hx:Ext wG w)=>(kB (w:=w) hx).mono fun _ _ h=>(Msg8.of h).n hm
         clear kA kB sm
         generalize mrkC xc xm xid xal=D at k1 k2
         refine Calls.mono (k1 hp.ext) ?_
         rintro _ w ⟨rfl,hx⟩
         refine ⟨_,rfl,?_⟩
         have hp:=hp.call hx
         unfold zStun
         conv=>whnf
         (refine hp.kalloc z24 fun al24 w hp hx=>?_; conv=>whnf)
         (refine hp.kstA TTok rfl 0 rfl rfl (oneC_of rfl) (by rfl) fun w hp=>?_; try simp only [List.set_cons_zero,List.set_cons_succ,EV.val] at hp; conv=>whnf)
         (refine hKq _ _ _ (.refl _) ?_; clear hKq Kq; conv=>whnf)
         (refine VSeq.mk fun Kq hKq=>?_; conv=>whnf)
         (refine ⟨_,_,Blk.ldV (vs:=[_,_,_,_]) (hp.get (i:=5) rfl) TTok rfl rfl rfl,?_⟩; conv=>whnf)
         refine Calls.mono (k2 hp.ext) ?_
         rintro _ w ⟨rfl,hx⟩
         refine ⟨_,rfl,?_⟩
         have hp:=hp.call hx
         unfold zStun
         conv=>whnf
         (refine hp.kalloc z24 fun al24 w hp hx=>?_; conv=>whnf)
         (refine hp.kstA TTok rfl 0 rfl rfl (oneC_of rfl) (by rfl) fun w hp=>?_; try simp only [List.set_cons_zero,List.set_cons_succ,EV.val] at hp; conv=>whnf)
         (refine hKq _ _ _ (.refl _) ?_; clear hKq Kq; conv=>whnf)
         (refine VSeq.mk fun Kq hKq=>?_; conv=>whnf)
         refine v_mixA TTok FFok mixed [(0,false),(1,false),(2,false),(3,false),(4,false),(5,false),(6,false),(7,false),(8,false),(9,false),(10,false),(11,false),(12,false),(13,false),(14,false),(15,false)] (by kernel_rfl) ?_
         conv=>whnf
         (refine And.intro (fun h=>absurd (of_decide_eq_true h) (by first | (intro h2; exact absurd rfl h2) | omega | decide)) (fun _=>?_); conv=>whnf)
         (refine ⟨_,fun w' hx'=>Blk.ldV (vs:=[_,_,_,_]) (Blk.ext (hp.get (i:=1) rfl) hx') TTok rfl rfl rfl,?_⟩; conv=>whnf)
         (refine ⟨_,fun w' hx'=>Blk.ldV (vs:=[_,_,_,_]) (Blk.ext (hp.get (i:=0) rfl) hx') TTok rfl rfl rfl,?_⟩; conv=>whnf)
         refine ⟨_,fun w1 hx1=>hz2 w1,?_⟩
         conv=>whnf
         (refine And.intro (fun h=>absurd h (by decide)) (fun _=>?_); conv=>whnf)
         (refine ⟨_,fun w' hx'=>Blk.ldV (vs:=[_,_,_,_]) (Blk.ext (hp.get (i:=6) rfl) hx') TTok rfl rfl rfl,?_⟩; conv=>whnf)
         refine ⟨_,fun w1 hx1=>mA (hp.ext.trans hx1),?_⟩
         conv=>whnf
         (refine ⟨_,fun w' hx'=>Blk.ldV (vs:=[_,_,_,_]) (Blk.ext (hp.get (i:=6) rfl) hx') TTok rfl rfl rfl,?_⟩; conv=>whnf)
         refine ⟨_,fun w1 hx1=>mB (hp.ext.trans hx1),?_⟩
         conv=>whnf
         (intro w hx; try (have hp:=hp.call hx); conv=>whnf)
         (refine hKq _ _ _ (.refl _) ?_; clear hKq Kq; conv=>whnf)
         (refine And.intro (fun h=>absurd (of_decide_eq_true h) (by first | (intro h2; exact absurd rfl h2) | omega | decide)) (fun _=>?_); conv=>whnf)
         (refine hKq _ _ _ (.refl _) ?_; clear hKq Kq; conv=>whnf)
         (refine Or.inl (And.intro (by first | omega | decide) ?_); conv=>whnf)
         exact ⟨mm - 1,_,by omega,⟨k+1,by omega,rfl,hp.sub (List.nil_sublist _)⟩,sub_cons rfl (sub_cons rfl (sub_cons rfl (sub_cons rfl (sub_cons rfl sub_nil))))⟩
       ·have k1:=fun {w:World} (hx:Ext wG w)=>(pA (w:=w) hx).mono fun _ _ h=>h.n hm
        have k2:=fun {w:World} (hx:Ext wG w)=>(pB (w:=w) hx).mono fun _ _ h=>(Msg8.of h).n hm
        clear pA pB
        generalize proC xc xm xid key xal=D at hm k1 k2
        refine Calls.mono (k1 hp.ext) ?_
        rintro _ w ⟨rfl,hx⟩
        refine ⟨_,rfl,?_⟩
        have hp:=hp.call hx
        unfold zStun
        conv=>whnf
        (refine hp.kalloc z24 fun al24 w hp hx=>?_; conv=>whnf)
        (refine hp.kstA TTok rfl 0 rfl rfl (oneC_of rfl) (by rfl) fun w hp=>?_; try simp only [List.set_cons_zero,List.set_cons_succ,EV.val] at hp; conv=>whnf)
        (refine hKq _ _ _ (.refl _) ?_; clear hKq Kq; conv=>whnf)
        (refine VSeq.mk fun Kq hKq=>?_; conv=>whnf)
        (refine ⟨_,_,Blk.ldN (hB13.ext hp.ext) TTok rfl rfl,?_⟩; conv=>whnf)
        (refine ⟨_,_,Blk.ldV (vs:=[_,_,_,_]) (hp.get (i:=1) rfl) TTok rfl rfl rfl,?_⟩; conv=>whnf)
        refine Calls.mono (k2 hp.ext) ?_
        rintro _ w ⟨rfl,hx⟩
        refine ⟨_,rfl,?_⟩
        have hp:=hp.call hx
        unfold zStun
        conv=>whnf
        (refine hp.kalloc z24 fun al24 w hp hx=>?_; conv=>whnf)
        (refine hp.kstA TTok rfl 0 rfl rfl (oneC_of rfl) (by rfl) fun w hp=>?_; try simp only [List.set_cons_zero,List.set_cons_succ,EV.val] at hp; conv=>whnf)
        (refine hKq _ _ _ (.refl _) ?_; clear hKq Kq; conv=>whnf)
        (refine VSeq.mk fun Kq hKq=>?_; conv=>whnf)
        (refine VSeq.mk fun Kq hKq=>?_; conv=>whnf)
        clear hm k1 k2
        refine v_mixA TTok FFok mixed [(0,false),(1,false),(2,false),(3,false),(4,false),(5,false),(6,false),(7,false),(8,false),(9,false),(10,false),(11,false),(12,false),(13,false),(14,false),(15,false),(16,false),(17,false),(18,false),(19,false),(20,false),(21,false),(22,false),(23,false),(24,false),(25,false),(26,false),(27,false),(28,false),(29,false),(30,false)] (by kernel_rfl) ?_
        conv=>whnf
        (refine And.intro (fun h=>absurd (of_decide_eq_true h) (by first | (intro h2; exact absurd rfl h2) | omega | decide)) (fun _=>?_); conv=>whnf)
        (refine ⟨_,fun w' hx'=>Blk.ldV (vs:=[_,_,_,_]) (Blk.ext (hp.get (i:=1) rfl) hx') TTok rfl rfl rfl,?_⟩; conv=>whnf)
        (refine ⟨_,fun w' hx'=>Blk.ldV (vs:=[_,_,_,_]) (Blk.ext (hp.get (i:=0) rfl) hx') TTok rfl rfl rfl,?_⟩; conv=>whnf)
        refine ⟨_,fun w1 hx1=>hz2 w1,?_⟩
        conv=>whnf
        (refine And.intro (fun h=>absurd h (by decide)) (fun _=>?_); conv=>whnf)
        (refine ⟨_,fun w' hx'=>Blk.ldV (vs:=[_,_,_,_]) (Blk.ext (hp.get (i:=2) rfl) hx') TTok rfl rfl rfl,?_⟩; conv=>whnf)
        refine ⟨_,fun w1 hx1=>vA key (hp.ext.trans hx1),?_⟩
        conv=>whnf
        refine ⟨_,fun w1 hx1=>Blk.ldN (hB13.ext (hp.ext.trans hx1)) TTok rfl rfl,?_⟩
        conv=>whnf
        (refine ⟨_,fun w' hx'=>Blk.ldV (vs:=[_,_,_,_]) (Blk.ext (hp.get (i:=2) rfl) hx') TTok rfl rfl rfl,?_⟩; conv=>whnf)
        refine ⟨_,fun w1 hx1=>vB key (hp.ext.trans hx1),?_⟩
        conv=>whnf
        (refine And.intro (fun h=>absurd (of_decide_eq_true h) (by first | (intro h2; exact absurd rfl h2) | omega | decide)) (fun _=>?_); conv=>whnf)
        (refine ⟨_,fun w' hx'=>Blk.ldV (vs:=[_,_,_,_]) (Blk.ext (hp.get (i:=2) rfl) hx') TTok rfl rfl rfl,?_⟩; conv=>whnf)
        refine And.intro (by show key.size+1≤_; omega) ?_
        conv=>whnf
        refine ⟨_,fun w1 hx1=>vA (key++(⟨#[120]⟩:ByteArray)) (hp.ext.trans hx1),?_⟩
        conv=>whnf
        refine ⟨_,fun w1 hx1=>Blk.ldN (hB13.ext (hp.ext.trans hx1)) TTok rfl rfl,?_⟩
        conv=>whnf
        (refine ⟨_,fun w' hx'=>Blk.ldV (vs:=[_,_,_,_]) (Blk.ext (hp.get (i:=2) rfl) hx') TTok rfl rfl rfl,?_⟩; conv=>whnf)
        refine And.intro (by show key.size+1≤_; omega) ?_
        conv=>whnf
        refine ⟨_,fun w1 hx1=>vB (key++(⟨#[120]⟩:ByteArray)) (hp.ext.trans hx1),?_⟩
        conv=>whnf
        (intro w hx; try (have hp:=hp.call hx); conv=>whnf)
        (refine hKq _ _ _ (.refl _) ?_; clear hKq Kq; conv=>whnf)
        (refine And.intro (fun h=>absurd (of_decide_eq_true h) (by first | (intro h2; exact absurd rfl h2) | omega | decide)) (fun _=>?_); conv=>whnf)
        (refine hKq _ _ _ (.refl _) ?_; clear hKq Kq; conv=>whnf)
        (refine VSeq.mk fun Kq hKq=>?_; conv=>whnf)
        (refine ⟨_,_,Blk.ldV (vs:=[_,_,_,_]) (hp.get (i:=2) rfl) TTok rfl rfl rfl,?_⟩; conv=>whnf)
        by_cases hm:mrkC xc xm xid xal=0
        ·have hs2:=(mrkC_ok hm).2
         have k1:=fun {w:World} (hx:Ext wG w)=>(kA (w:=w) hx).mono fun _ _ h=>h.y hm
         have k2:=fun {w:World} (hx:Ext wG w)=>(kB (w:=w) hx).mono fun _ _ h=>(Msg8.of h).y hm
         clear kA kB
         generalize mrkL xc xm xid xal=L at hs2 k1 k2
         have sm:=fun {w:World} {v u:Value} hu hv=>sm (w:=w) (v:=v) (u:=u) L hs2 hu hv
         rw [sameB_t ⟨rfl,rfl,rfl,rfl⟩] at sm
         refine Calls.mono (k1 hp.ext) ?_
         rintro _ w ⟨v,rfl,hr⟩
         refine ⟨_,rfl,?_⟩
         have hp:=hp.join hr
         clear hr
         simp only [List.cons_append,List.nil_append] at hp
         obtain ⟨p3,c3,rfl⟩:=row_shape (hp.get (i:=0) rfl)
         conv=>whnf
         (refine hp.kalloc z24 fun al24 w hp hx=>?_; conv=>whnf)
         (refine hp.kstA TTok rfl 0 rfl rfl (oneC_of rfl) (by rfl) fun w hp=>?_; try simp only [List.set_cons_zero,List.set_cons_succ,EV.val] at hp; conv=>whnf)
         (refine hKq _ _ _ (.refl _) ?_; clear hKq Kq; conv=>whnf)
         (refine VSeq.mk fun Kq hKq=>?_; conv=>whnf)
         (refine ⟨_,_,Blk.ldV (vs:=[_,_,_,_]) (hp.get (i:=4) rfl) TTok rfl rfl rfl,?_⟩; conv=>whnf)
         refine Calls.mono (k2 hp.ext) ?_
         rintro _ w ⟨v,rfl,hr⟩
         refine ⟨_,rfl,?_⟩
         have hp:=hp.join hr
         clear hr
         simp only [List.cons_append,List.nil_append] at hp
         obtain ⟨p4,c4,rfl⟩:=row_shape (hp.get (i:=0) rfl)
         conv=>whnf
         (refine hp.kalloc z24 fun al24 w hp hx=>?_; conv=>whnf)
         (refine hp.kstA TTok rfl 0 rfl rfl (oneC_of rfl) (by rfl) fun w hp=>?_; try simp only [List.set_cons_zero,List.set_cons_succ,EV.val] at hp; conv=>whnf)
         (refine hKq _ _ _ (.refl _) ?_; clear hKq Kq; conv=>whnf)
         (refine VSeq.mk fun Kq hKq=>?_; conv=>whnf)
         refine v_mixA TTok FFok mixed [(0,false),(1,false),(2,false),(3,false),(4,false),(5,false),(6,false),(7,false),(8,false),(9,false),(10,false),(11,false),(12,false),(13,false),(14,false),(15,false)] (by kernel_rfl) ?_
         conv=>whnf
         (refine And.intro (fun h=>absurd (of_decide_eq_true h) (by first | (intro h2; exact absurd rfl h2) | omega | decide)) (fun _=>?_); conv=>whnf)
         (refine ⟨_,fun w' hx'=>Blk.ldV (vs:=[_,_,_,_]) (Blk.ext (hp.get (i:=2) rfl) hx') TTok rfl rfl rfl,?_⟩; conv=>whnf)
         (refine ⟨_,fun w' hx'=>Blk.ldV (vs:=[_,_,_,_]) (Blk.ext (hp.get (i:=0) rfl) hx') TTok rfl rfl rfl,?_⟩; conv=>whnf)
         refine ⟨_,fun w1 hx1=>sm ((SA.of_row (hp.get (i:=3) rfl)).ext hx1) ((SA.of_row (hp.get (i:=1) rfl)).ext hx1),?_⟩
         conv=>whnf
         (refine And.intro (fun h=>absurd h (by decide)) (fun _=>?_); conv=>whnf)
         (refine ⟨_,fun w' hx'=>Blk.ldV (vs:=[_,_,_,_]) (Blk.ext (hp.get (i:=6) rfl) hx') TTok rfl rfl rfl,?_⟩; conv=>whnf)
         refine ⟨_,fun w1 hx1=>mA (hp.ext.trans hx1),?_⟩
         conv=>whnf
         (refine ⟨_,fun w' hx'=>Blk.ldV (vs:=[_,_,_,_]) (Blk.ext (hp.get (i:=6) rfl) hx') TTok rfl rfl rfl,?_⟩; conv=>whnf)
         refine ⟨_,fun w1 hx1=>mB (hp.ext.trans hx1),?_⟩
         conv=>whnf
         (intro w hx; try (have hp:=hp.call hx); conv=>whnf)
         (refine hKq _ _ _ (.refl _) ?_; clear hKq Kq; conv=>whnf)
         (refine And.intro (fun h=>absurd (of_decide_eq_true h) (by first | (intro h2; exact absurd rfl h2) | omega | decide)) (fun _=>?_); conv=>whnf)
         (refine hKq _ _ _ (.refl _) ?_; clear hKq Kq; conv=>whnf)
         (refine Or.inl (And.intro (by first | omega | decide) ?_); conv=>whnf)
         exact ⟨mm - 1,_,by omega,⟨k+1,by omega,rfl,hp.sub (List.nil_sublist _)⟩,sub_cons rfl (sub_cons rfl (sub_cons rfl (sub_cons rfl (sub_cons rfl sub_nil))))⟩
        ·have k1:=fun {w:World} (hx:Ext wG w)=>(kA (w:=w) hx).mono fun _ _ h=>h.n hm
         have k2:=fun {w:World} (hx:Ext wG w)=>(kB (w:=w) hx).mono fun _ _ h=>(Msg8.of h).n hm
         clear kA kB sm
         generalize mrkC xc xm xid xal=D at k1 k2
         refine Calls.mono (k1 hp.ext) ?_
         rintro _ w ⟨rfl,hx⟩
         refine ⟨_,rfl,?_⟩
         have hp:=hp.call hx
         unfold zStun
         conv=>whnf
         (refine hp.kalloc z24 fun al24 w hp hx=>?_; conv=>whnf)
         (refine hp.kstA TTok rfl 0 rfl rfl (oneC_of rfl) (by rfl) fun w hp=>?_; try simp only [List.set_cons_zero,List.set_cons_succ,EV.val] at hp; conv=>whnf)
         (refine hKq _ _ _ (.refl _) ?_; clear hKq Kq; conv=>whnf)
         (refine VSeq.mk fun Kq hKq=>?_; conv=>whnf)
         (refine ⟨_,_,Blk.ldV (vs:=[_,_,_,_]) (hp.get (i:=3) rfl) TTok rfl rfl rfl,?_⟩; conv=>whnf)
         refine Calls.mono (k2 hp.ext) ?_
         rintro _ w ⟨rfl,hx⟩
         refine ⟨_,rfl,?_⟩
         have hp:=hp.call hx
         unfold zStun
         conv=>whnf
         (refine hp.kalloc z24 fun al24 w hp hx=>?_; conv=>whnf)
         (refine hp.kstA TTok rfl 0 rfl rfl (oneC_of rfl) (by rfl) fun w hp=>?_; try simp only [List.set_cons_zero,List.set_cons_succ,EV.val] at hp; conv=>whnf)
         (refine hKq _ _ _ (.refl _) ?_; clear hKq Kq; conv=>whnf)
         (refine VSeq.mk fun Kq hKq=>?_; conv=>whnf)
         refine v_mixA TTok FFok mixed [(0,false),(1,false),(2,false),(3,false),(4,false),(5,false),(6,false),(7,false),(8,false),(9,false),(10,false),(11,false),(12,false),(13,false),(14,false),(15,false)] (by kernel_rfl) ?_
         conv=>whnf
         (refine And.intro (fun h=>absurd (of_decide_eq_true h) (by first | (intro h2; exact absurd rfl h2) | omega | decide)) (fun _=>?_); conv=>whnf)
         (refine ⟨_,fun w' hx'=>Blk.ldV (vs:=[_,_,_,_]) (Blk.ext (hp.get (i:=1) rfl) hx') TTok rfl rfl rfl,?_⟩; conv=>whnf)
         (refine ⟨_,fun w' hx'=>Blk.ldV (vs:=[_,_,_,_]) (Blk.ext (hp.get (i:=0) rfl) hx') TTok rfl rfl rfl,?_⟩; conv=>whnf)
         refine ⟨_,fun w1 hx1=>hz2 w1,?_⟩
         conv=>whnf
         (refine And.intro (fun h=>absurd h (by decide)) (fun _=>?_); conv=>whnf)
         (refine ⟨_,fun w' hx'=>Blk.ldV (vs:=[_,_,_,_]) (Blk.ext (hp.get (i:=4) rfl) hx') TTok rfl rfl rfl,?_⟩; conv=>whnf)
         refine ⟨_,fun w1 hx1=>mA (hp.ext.trans hx1),?_⟩
         conv=>whnf
         (refine ⟨_,fun w' hx'=>Blk.ldV (vs:=[_,_,_,_]) (Blk.ext (hp.get (i:=4) rfl) hx') TTok rfl rfl rfl,?_⟩; conv=>whnf)
         refine ⟨_,fun w1 hx1=>mB (hp.ext.trans hx1),?_⟩
         conv=>whnf
         (intro w hx; try (have hp:=hp.call hx); conv=>whnf)
         (refine hKq _ _ _ (.refl _) ?_; clear hKq Kq; conv=>whnf)
         (refine And.intro (fun h=>absurd (of_decide_eq_true h) (by first | (intro h2; exact absurd rfl h2) | omega | decide)) (fun _=>?_); conv=>whnf)
         (refine hKq _ _ _ (.refl _) ?_; clear hKq Kq; conv=>whnf)
         (refine Or.inl (And.intro (by first | omega | decide) ?_); conv=>whnf)
         exact ⟨mm - 1,_,by omega,⟨k+1,by omega,rfl,hp.sub (List.nil_sublist _)⟩,sub_cons rfl (sub_cons rfl (sub_cons rfl (sub_cons rfl (sub_cons rfl sub_nil))))⟩
      ·have hlt:=of_decide_eq_false hlt
       conv=>whnf
       clear hKq Kq
       refine hKq _ _ _ (.refl _) ?_
       clear hKq Kq
       conv=>whnf
       refine VSeq.mk fun Kq hKq=>?_
       conv=>whnf
       refine hKq _ _ _ (.refl _) ?_
       clear hKq Kq
       conv=>whnf
       skip
       exact ⟨rfl,hxG.trans hp.ext⟩
     clear hKq
     refine v_mix TTok FFok mixed 6 [(0,false),(1,false),(2,false),(3,false),(4,true),(5,true)] (by kernel_rfl) ?_
     conv=>whnf
     (refine ⟨_,fun w' hx'=>Blk.ldV (vs:=[_,_,_,_]) (Blk.ext (hp.get (i:=0) rfl) hx') TTok rfl rfl rfl,?_⟩; conv=>whnf)
     refine ⟨_,fun w1 hx1=>Blk.ldN (hB9.ext (hp.ext.trans hx1)) TTok rfl rfl,?_⟩
     conv=>whnf
     (refine ⟨_,fun w' hx'=>Blk.ldV (vs:=[_,_,_,_]) (Blk.ext (hp.get (i:=0) rfl) hx') TTok rfl rfl rfl,?_⟩; conv=>whnf)
     (intro w hx; try (have hp:=hp.call hx); conv=>whnf)
     refine Calls.mono (b2 dc dm i1 oi1 (SA.of_row (hp.get (i:=1) rfl)) (okM kQ).each (by have:=(okM kQ).len; omega)) ?_
     rintro _ w ⟨_,rfl,c5,m5,i5,l5,p5,k5,rfl,o5,sa,hx,hf⟩
     refine ⟨_,rfl,?_⟩
     have hp:=pushS hp hx sa hf
     clear sa hf
     conv=>whnf
     refine And.intro hx ?_
     conv=>whnf
     (intro w hx; try (have hp:=hp.call hx); conv=>whnf)
     (refine hp.kmade _ _ (fun b=>.slice (some ⟨b,0,none⟩) 2 2) (mks107_2_0_1 _ _ _ _ _ _ _ _ _) fun q w hp hx=>?_; conv=>whnf)
     (with_reducible refine And.intro hx ?_; conv=>whnf)
     (intro w hx; try (have hp:=hp.call hx); conv=>whnf)
     have hok:∀ w,SA w (.slice pq (fl++[((32808:Int),F)]).length cq) (fl++[((32808:Int),F)])→SA w (.slice p5 l5.length k5) l5→(∀ x∈ML,x.Ok w)→∀ x∈ML++[⟨dc,dm,i1,fl++[((32808:Int),F)],pq,cq⟩,⟨c5,m5,i5,l5,p5,k5⟩],x.Ok w:=by
      intro w s1 s2 hM x hx
      rcases List.mem_append.1 hx with h | h
      ·exact hM x h
      ·simp only [List.mem_cons,List.not_mem_nil,or_false] at h
       rcases h with rfl | rfl
       ·exact ⟨okM kQ,s1⟩
       ·exact ⟨⟨o5.id,by have:=o5.len; have:=(okM kQ).len; simp only [List.length_append,List.length_singleton] at *; omega,o5.each⟩,s2⟩
     have hlen:(ML++[(⟨dc,dm,i1,fl++[((32808:Int),F)],pq,cq⟩:Ms8),⟨c5,m5,i5,l5,p5,k5⟩]).length=n+2:=by rw [List.length_append,hn]; rfl
     rcases hY with rfl | ⟨rfl,rfl,rfl,rfl,hcs⟩
     ·refine hp.kapp sl107 4 rfl (Blk.src TTok (hp.get (i:=0) rfl) rfl (m:=2) rfl (oneC_of rfl)) (by omega) (by unfold maxLen; omega) fun v' w hp=>?_
      simp only [List.set_cons_zero,List.set_cons_succ] at hp
      obtain ⟨p9,c9,rfl⟩:=row_shape (hp.get (i:=4) rfl)
      conv=>whnf
      exact key3 _ _ _ _ _ _ hlen (by omega) (hok w (SA.of_row (hp.get (i:=3) rfl)) (hp.get (i:=1) rfl) (hML w hp.tail.tail.tail.tail.tail.tail.tail)) (by rw [mflat_app]; exact hp.pick [4] (by decide)) (sub_cons rfl (sub_cons rfl (sub_cons rfl sub_nil)))
     ·refine hp.kappF sl107 (hp.get (i:=4) rfl) rfl (Blk.src TTok (hp.get (i:=0) rfl) rfl (m:=2) rfl (oneC_of rfl)) (by decide) (by unfold maxLen; decide) (by decide) fun g gc w hp hx=>?_
      conv=>whnf
      exact key3 _ _ _ _ _ _ hlen (by omega) (hok w (SA.of_row (hp.get (i:=4) rfl)) (hp.get (i:=2) rfl) (hML w hp.tail.tail.tail.tail.tail.tail.tail.tail)) (by rw [mflat_app,hcs]; exact hp.pick [0] (by decide)) (sub_cons rfl (sub_cons rfl (sub_cons rfl sub_nil)))
    by_cases hC0:C=0
    ·obtain ⟨pp,cp,rfl,rfl⟩:=hC hC0
     subst hC0
     clear hKq hC
     (refine And.intro (fun _=>?_) (fun h=>absurd (by first | rfl | assumption | omega | decide) (of_decide_eq_false h)); conv=>whnf)
     (refine VSeq.mk fun Kq hKq=>?_; conv=>whnf)
     (refine ⟨_,_,Blk.ldV (vs:=[_,_,_,_]) (hp.get (i:=3) rfl) TTok rfl rfl rfl,?_⟩; conv=>whnf)
     refine Calls.mono (cR (SA.of_row (hp.get (i:=4) rfl))) ?_
     rintro _ w ⟨v,rfl,hr⟩
     refine ⟨_,rfl,?_⟩
     have hp:=hp.join hr
     clear hr
     simp only [List.cons_append,List.nil_append] at hp
     obtain ⟨pq,cq,rfl⟩:=row_shape (hp.get (i:=0) rfl)
     conv=>whnf
     (refine hp.kalloc z24 fun al24 w hp hx=>?_; conv=>whnf)
     (refine hp.kstA TTok rfl 0 rfl rfl (oneC_of rfl) (by rfl) fun w hp=>?_; try simp only [List.set_cons_zero,List.set_cons_succ,EV.val] at hp; conv=>whnf)
     (refine hKq _ _ _ (.refl _) ?_; clear hKq Kq; conv=>whnf)
     obtain ⟨b21,rfl⟩:∃ q,q=al24:=⟨al24,rfl⟩
     refine v_mix TTok FFok mixed 10 [(0,false),(1,false),(2,false),(3,false),(5,false),(6,false),(7,false),(4,true),(8,true),(9,true)] (by kernel_rfl) ?_
     conv=>whnf
     (refine ⟨_,fun w' hx'=>Blk.ldV (vs:=[_,_,_,_]) (Blk.ext (hp.get (i:=5) rfl) hx') TTok rfl rfl rfl,?_⟩; conv=>whnf)
     refine ⟨_,fun w1 hx1=>Blk.ldN (hB8.ext (hp.ext.trans hx1)) TTok rfl rfl,?_⟩
     conv=>whnf
     (refine ⟨_,fun w' hx'=>Blk.ldV (vs:=[_,_,_,_]) (Blk.ext (hp.get (i:=5) rfl) hx') TTok rfl rfl rfl,?_⟩; conv=>whnf)
     (refine ⟨_,fun w' hx'=>Blk.ldV (vs:=[_,_,_,_]) (Blk.ext (hp.get (i:=0) rfl) hx') TTok rfl rfl rfl,?_⟩; conv=>whnf)
     refine ⟨_,fun w1 hx1=>Blk.ldN (hB8.ext (hp.ext.trans hx1)) TTok rfl rfl,?_⟩
     conv=>whnf
     (refine ⟨_,fun w' hx'=>Blk.ldV (vs:=[_,_,_,_]) (Blk.ext (hp.get (i:=0) rfl) hx') TTok rfl rfl rfl,?_⟩; conv=>whnf)
     (intro w hx; try (have hp:=hp.call hx); conv=>whnf)
     refine Calls.mono (b1 dc dm i1 oi1 (SA.of_row (hp.get (i:=6) rfl)) (okM kP).each (by have:=(okM kP).len; omega)) ?_
     rintro _ w ⟨_,rfl,c6,m6,i6,l6,p6,k6,rfl,o6,sa,hx,hf⟩
     refine ⟨_,rfl,?_⟩
     have hp:=pushS hp hx sa hf
     clear sa hf
     conv=>whnf
     refine And.intro hx ?_
     conv=>whnf
     (intro w hx; try (have hp:=hp.call hx); conv=>whnf)
     refine Calls.mono (b1 dc dm i1 oi1 (SA.of_row (hp.get (i:=2) rfl)) (okM hR1).each (by omega)) ?_
     rintro _ w ⟨_,rfl,c7,m7,i7,l7,p7,k7,rfl,o7,sa,hx,hf⟩
     refine ⟨_,rfl,?_⟩
     have hp:=pushS hp hx sa hf
     clear sa hf
     conv=>whnf
     refine And.intro hx ?_
     conv=>whnf
     (intro w hx; try (have hp:=hp.call hx); conv=>whnf)
     (refine hp.kmade _ _ (fun b=>.slice (some ⟨b,0,none⟩) 4 4) (mks107_4_0_1_2_3 _ _ _ _ _ _ _ _ _ _ _ _ _ _ _ _ _) fun q w hp hx=>?_; conv=>whnf)
     (with_reducible refine And.intro hx ?_; conv=>whnf)
     (intro w hx; try (have hp:=hp.call hx); conv=>whnf)
     refine hp.kappF sl107 (hp.get (i:=7) rfl) rfl (Blk.src TTok (hp.get (i:=0) rfl) rfl (m:=4) rfl (oneC_of rfl)) (by decide) (by unfold maxLen; decide) (by decide) fun g gc w hp hx=>?_
     conv=>whnf
     exact key2 [⟨c0,m0,i0,l0,p0,k0⟩,⟨dc,dm,i1,l1,p1,k1⟩,⟨c2,m2,i2,l2,p2,k2⟩,⟨c3,m3,i3,l3,p3,k3⟩,⟨dc,dm,i1,fl++[((8:Int),M)],pp,cp⟩,⟨c6,m6,i6,l6,p6,k6⟩,⟨dc,dm,i1,bq,pq,cq⟩,⟨c7,m7,i7,l7,p7,k7⟩] _ [row 54 2 (.slice pp (fl++[((8:Int),M)]).length cp) (fl++[((8:Int),M)]).length (flatC (fl++[((8:Int),M)])),saitem p6 l6 k6,row 54 2 (.slice pq bq.length cq) bq.length (flatC bq),saitem p7 l7 k7] (some ⟨g,0,none⟩) 8 gc _ _ rfl (by decide) (by
      intro w hp x hx
      simp only [List.mem_cons,List.not_mem_nil,or_false] at hx
      rcases hx with rfl | rfl | rfl | rfl | rfl | rfl | rfl | rfl
      ·exact ⟨h0.1,h0.2.ext hp.ext⟩
      ·exact ⟨h1.1,h1.2.ext hp.ext⟩
      ·exact ⟨h2.1,h2.2.ext hp.ext⟩
      ·exact ⟨h3.1,h3.2.ext hp.ext⟩
      ·exact ⟨okM kP,SA.of_row (hp.get (i:=0) rfl)⟩
      ·exact ⟨⟨o6.id,by have:=o6.len; have:=(okM kP).len; simp only [List.length_append,List.length_singleton] at *; omega,o6.each⟩,hp.get (i:=1) rfl⟩
      ·exact ⟨okM hR1,SA.of_row (hp.get (i:=2) rfl)⟩
      ·exact ⟨⟨o7.id,by have:=o7.len; show l7.length≤100; omega,o7.each⟩,hp.get (i:=3) rfl⟩) (hp.pick [0,6,7,10,3,5,2] (by decide)) (.inl rfl) (sub_cons rfl (sub_cons rfl (sub_cons rfl (sub_cons rfl (sub_cons rfl sub_nil)))))
    ·clear hKq hC
     (refine And.intro (fun h=>absurd (of_decide_eq_true h) (by first | (intro h2; exact absurd rfl h2) | omega | decide)) (fun _=>?_); conv=>whnf)
     exact key2 [⟨c0,m0,i0,l0,p0,k0⟩,⟨dc,dm,i1,l1,p1,k1⟩,⟨c2,m2,i2,l2,p2,k2⟩,⟨c3,m3,i3,l3,p3,k3⟩] _ [] (some ⟨b14,0,none⟩) 4 4 _ _ rfl (by decide) (by
      intro w hp x hx
      simp only [List.mem_cons,List.not_mem_nil,or_false] at hx
      rcases hx with rfl | rfl | rfl | rfl
      ·exact ⟨h0.1,h0.2.ext hp.ext⟩
      ·exact ⟨h1.1,h1.2.ext hp.ext⟩
      ·exact ⟨h2.1,h2.2.ext hp.ext⟩
      ·exact ⟨h3.1,h3.2.ext hp.ext⟩) (hp.pick [2,0,1] (by decide)) (.inr ⟨rfl,rfl,rfl,rfl,rfl⟩) (sub_cons rfl (sub_cons rfl (sub_cons rfl (sub_cons rfl (sub_cons rfl sub_nil)))))
   clear hKq
   by_cases hkk:key.size≤4096
   ·have cP1:=fun {w:World} hx hy=>(cP (w:=w) hx hy).mono fun _ _ h=>(Msg8.of h).y (hP0 hkk)
    rw [hP1] at cP1
    refine Calls.mono (cP1 (SA.of_row (hp.get (i:=0) rfl)) hp.ext) ?_
    rintro _ w ⟨v,rfl,hr⟩
    refine ⟨_,rfl,?_⟩
    have hp:=hp.join hr
    clear hr
    simp only [List.cons_append,List.nil_append] at hp
    obtain ⟨pp,cp,rfl⟩:=row_shape (hp.get (i:=0) rfl)
    conv=>whnf
    (refine hp.kalloc z24 fun al24 w hp hx=>?_; conv=>whnf)
    (refine hp.kstA TTok rfl 0 rfl rfl (oneC_of rfl) (by rfl) fun w hp=>?_; try simp only [List.set_cons_zero,List.set_cons_succ,EV.val] at hp; conv=>whnf)
    exact key18 0 _ _ _ _ _ (hp.pick [2,3,4,0,1] (by decide)) (fun _=>⟨_,_,rfl,rfl⟩) (sub_cons rfl (sub_cons rfl (sub_cons rfl (sub_cons rfl (sub_cons rfl (sub_cons rfl (sub_cons rfl (sub_cons rfl sub_nil))))))))
   ·have cP1:=fun {w:World} hx hy=>(cP (w:=w) hx hy).mono fun _ _ h=>(Msg8.of h).n (by rw [hP2 hkk]; decide)
    rw [hP2 hkk] at cP1
    refine Calls.mono (cP1 (SA.of_row (hp.get (i:=0) rfl)) hp.ext) ?_
    rintro _ w ⟨rfl,hx⟩
    refine ⟨_,rfl,?_⟩
    have hp:=hp.call hx
    unfold zStun
    conv=>whnf
    (refine hp.kalloc z24 fun al24 w hp hx=>?_; conv=>whnf)
    (refine hp.kstA TTok rfl 0 rfl rfl (oneC_of rfl) (by rfl) fun w hp=>?_; try simp only [List.set_cons_zero,List.set_cons_succ,EV.val] at hp; conv=>whnf)
    exact key18 3 _ _ _ _ _ (hp.pick [1,2,3,0] (by decide)) (fun h=>by cases h) (sub_cons rfl (sub_cons rfl (sub_cons rfl (sub_cons rfl (sub_cons rfl (sub_cons rfl (sub_cons rfl (sub_cons rfl sub_nil))))))))
 clear hKq ms b1 b2
 cases lg with
 | false =>
  (refine And.intro (fun h=>absurd h (by decide)) (fun _=>?_); conv=>whnf)
  exact key1 key _ _ (by omega) (sub_cons rfl (sub_cons rfl (sub_cons rfl (sub_cons rfl (sub_cons rfl sub_nil))))) hp
 | true =>
  (refine And.intro (fun _=>?_) (fun h=>absurd h (by decide)); conv=>whnf)
  (refine Or.inl (And.intro (by first | omega | decide) ?_); conv=>whnf)
  have en:(4097:Int) - (key.size:Int)=((4097 - key.size:Nat):Int):=by omega
  rw [en]
  obtain ⟨n,hn⟩:∃ n,4097 - key.size=n:=⟨_,rfl⟩
  rw [hn]
  refine hp.kmkS sl88 z5 n (by omega) (by unfold maxLen; omega) fun b w hp hx=>?_
  rw [bytesV_rep] at hp
  conv=>whnf
  refine ⟨_,_,Blk.str (l:=List.replicate n 0) (hp.get (i:=0) rfl) TTok rfl rfl rfl rfl (by rw [List.length_replicate]),?_⟩
  conv=>whnf
  have zz:(⟨(List.replicate n 0).toArray⟩:ByteArray).size=n:=by show (List.replicate _ _).toArray.size=_; rw [List.size_toArray,List.length_replicate]
  (refine And.intro (by first | omega | decide) ?_; conv=>whnf)
  exact key1 (key++⟨(List.replicate n 0).toArray⟩) _ _ (by rw [ByteArray.size_append]; omega) (sub_cons rfl (sub_cons rfl (sub_cons rfl (sub_cons rfl (sub_cons rfl sub_nil))))) hp.tail
theorem guards_at {W:World} {c0 c1 c2 c3:Array Value} {key:ByteArray} {lg:Bool} (e0:Rd W sh8R c0.toList) (e1:Rd W sh8M c1.toList) (e2:Rd W sh8B c2.toList) (e3:Rd W sh8B c3.toList) (w4:key.size≤maxLen) :
  Calls Tryz.prog 10 #[.agg c0,.agg c1,.agg c2,.agg c3,.string key,.bool lg] W fun e w'=>e = .returned (.bool true)∧Ext W w':=by
 obtain ⟨rc,rm,rid,v0,rl,hrid,hv0,hrl,h0⟩:=raw_rd e0
 obtain ⟨c8,m16,id,v,ps,h1,h2,h3,hv,hps,h4⟩:=draft_rd e1
 obtain ⟨wh,at_,N,S,k1,k2,k3,k4,k0⟩:=bend_rd e2
 obtain ⟨wh2,at2,N2,S2,j1,j2,j3,j4,j0⟩:=bend_rd e3
 have h0:c0 = #[.int .i64 rc,.int .i64 rm,.string rid,v0]:=Array.ext' h0
 have h4:c1 = #[.int .u8 c8,.int .u16 m16,.string id,v]:=Array.ext' h4
 have k0:c2 = #[.int .u8 wh,.int .u8 at_,.int .i64 N,.string S]:=Array.ext' k0
 have j0:c3 = #[.int .u8 wh2,.int .u8 at2,.int .i64 N2,.string S2]:=Array.ext' j0
 subst h0 h4 k0 j0
 exact guards_c rc rm rid hv0 hrid hrl c8 m16 id hv hps h1 h2 h3 wh at_ N S k1 k2 k3 k4 wh2 at2 N2 S2 j1 j2 j3 j4 key w4 lg
end Go.Proofs.YtmlmfmdmomegpaaGreatDoor
namespace Go.Proofs.YtmlmfmdmomegpaaGreatDoor.stunGuards
open Go.ChangeShapes Go.WideShapes Go.ChangeAt Go.RowKit
open Go.ChangeMaps (open_string shut_string)
set_option linter.unusedVariables false
theorem own:ownKnob Tryz.prog.godebug=none:=by kernel_rfl
theorem laidOut:laidOutB Tryz.prog=true:=by kernel_rfl
def laid2:List (String × DataW Unit):=[("unicode/utf8.acceptRanges",Rows.laid_unicode_utf8_acceptRanges),("unicode/utf8.first",Rows.laid_unicode_utf8_first)]
set_option maxRecDepth 100000 in
theorem lifted (os:Os) (started:os.Started) (H:Type) (enc:TypeId × Value→H) :
  ReturnsInHanded {} Tryz.checked os 10 .any (fun w args=>(Rows.stunGuardsSpec.pre enc Tryz.prog Tryz.f10 [] false w args∧laidMetH Tryz.prog laid2 w)∧sizedMet enc Tryz.prog Tryz.f10 (OpenSpec.ofChange Rows.stunGuardsSpec) false w args) (Rows.stunGuardsSpec.post enc Tryz.prog Tryz.f10 false true false false):=by
 refine returnsInHanded_of_change_and (C:=Tryz.checked) (X:=fun w _=>laidMetH Tryz.prog laid2 w) (fun _ _ _ hh h=>h.of_heap hh) own started (by kernel_rfl) Tryz.func10
  (ChangeSpec.witness_shaped (enc:=enc) (C:=Tryz.checked) (os:=os) (X:=fun w _=>laidMetH Tryz.prog laid2 w) false (World.laidAll Tryz.prog os laid2) #[.agg #[.int .i64 0,.int .i64 0,.string ByteArray.empty,.slice none 0 0],.agg #[.int .u8 0,.int .u16 0,.string ByteArray.empty,.slice none 0 0],.agg #[.int .u8 0,.int .u8 0,.int .i64 0,.string ByteArray.empty],.agg #[.int .u8 0,.int .u8 0,.int .i64 0,.string ByteArray.empty],.string ByteArray.empty,.bool false] 8 (World.laidAll_os _ _ _) (World.shaped_of_ZipB (by kernel_rfl) (by kernel_rfl)) (by kernel_rfl) (by kernel_rfl) (by kernel_rfl) (by rw [MakeChecks.laidMetH_plain _ _ _ (by kernel_rfl)]; exact laidMet_laidAll _ (by kernel_rfl) (by kernel_rfl))) ?_
 intro W base args ds gs before hval0 hW hcnd hsz0 hL _
 have hval:∀ (j:Nat) t v,Tryz.f10.params[j]? = some t→args[j]? = some v→Value.okWide Tryz.prog W .any base t v:=hval0
 have hW':=hW
 obtain ⟨p,q,hA0,hV,rfl,hfz,hnd⟩:=hW
 have hA:DataW.TrodAll enc Tryz.prog W 0 (fun _=>true) true Tryz.f10.params.toList args.toList ds p:=hA0
 rw [Tryz.params10] at hA hval
 obtain ⟨v0,vs0,d0,ds0,p0,q0,hargs,rfl,rfl,h0,r0⟩:=trodAll_cons hA
 obtain ⟨v1,vs1,d1,ds1,p1,q1,rfl,rfl,rfl,h1,r1⟩:=trodAll_cons r0
 obtain ⟨v2,vs2,d2,ds2,p2,q2,rfl,rfl,rfl,h2,r2⟩:=trodAll_cons r1
 obtain ⟨v3,vs3,d3,ds3,p3,q3,rfl,rfl,rfl,h3,r3⟩:=trodAll_cons r2
 obtain ⟨v4,vs4,d4,ds4,p4,q4,rfl,rfl,rfl,h4,r4⟩:=trodAll_cons r3
 obtain ⟨v5,vs5,d5,ds5,p5,q5,rfl,rfl,rfl,h5,r5⟩:=trodAll_cons r4
 obtain ⟨rfl,rfl,rfl⟩:=trodAll_nil r5
 obtain rfl:args = #[v0,v1,v2,v3,v4,v5]:=by cases args; simp_all
 obtain ⟨rfl,rfl⟩:=trodVars_none hV
 have k0:=h0
 have lt0:∀ x∈p0,x.block < W.heap.size:=by obtain ⟨m,hm⟩:=k0; exact DataW.trod_lt m _ _ _ hm
 obtain ⟨c0,rfl,e0⟩:=V.rd_ag (s:=(.cons (.int .i64) (.cons (.int .i64) (.cons .str (.cons (.sl (.ag (.cons (.int .i64) (.cons .str .nil)))) .nil))))) (by kernel_rfl) (hval 0 24 v0 rfl rfl) h0
 have k1:=h1
 have lt1:∀ x∈p1,x.block < W.heap.size:=by obtain ⟨m,hm⟩:=k1; exact DataW.trod_lt m _ _ _ hm
 obtain ⟨c1,rfl,e1⟩:=V.rd_ag (s:=(.cons (.int .u8) (.cons (.int .u16) (.cons .str (.cons (.sl (.ag (.cons (.int .u8) (.cons (.int .u16) (.cons .str .nil))))) .nil))))) (by kernel_rfl) (hval 1 28 v1 rfl rfl) h1
 have k2:=h2
 have lt2:∀ x∈p2,x.block < W.heap.size:=by obtain ⟨m,hm⟩:=k2; exact DataW.trod_lt m _ _ _ hm
 obtain ⟨c2,rfl,e2⟩:=V.rd_ag (s:=(.cons (.int .u8) (.cons (.int .u8) (.cons (.int .i64) (.cons .str .nil))))) (by kernel_rfl) (hval 2 30 v2 rfl rfl) h2
 have k3:=h3
 have lt3:∀ x∈p3,x.block < W.heap.size:=by obtain ⟨m,hm⟩:=k3; exact DataW.trod_lt m _ _ _ hm
 obtain ⟨c3,rfl,e3⟩:=V.rd_ag (s:=(.cons (.int .u8) (.cons (.int .u8) (.cons (.int .i64) (.cons .str .nil))))) (by kernel_rfl) (hval 3 30 v3 rfl rfl) h3
 have k4:=h4
 have lt4:∀ x∈p4,x.block < W.heap.size:=by obtain ⟨m,hm⟩:=k4; exact DataW.trod_lt m _ _ _ hm
 obtain ⟨a4,rfl,rfl,rfl,w4⟩:=open_string Tryz.underlying9 (hval 4 9 v4 rfl rfl) h4
 have k5:=h5
 have lt5:∀ x∈p5,x.block < W.heap.size:=by obtain ⟨m,hm⟩:=k5; exact DataW.trod_lt m _ _ _ hm
 obtain ⟨a5,rfl,rfl,rfl⟩:=open_bool Tryz.underlying4 (hval 5 4 v5 rfl rfl) h5
 clear hA0 hval0
 refine (guards_at e0 e1 e2 e3 w4).mono fun e W' ⟨he,bel⟩=>?_
 have bel:Below W.heap.size W W':=bel
 subst he
 exact ⟨_,rfl,_,_,_,[],_,[],hW',trodAll_mk1 (shut_bool Tryz.underlying4 _),(trodAll_cons_mk (Below.trod laidOut (by kernel_rfl) (of_decide_eq_true (by kernel_rfl)) k0 bel lt0) (trodAll_cons_mk (Below.trod laidOut (by kernel_rfl) (of_decide_eq_true (by kernel_rfl)) k1 bel lt1) (trodAll_cons_mk (Below.trod laidOut (by kernel_rfl) (of_decide_eq_true (by kernel_rfl)) k2 bel lt2) (trodAll_cons_mk (Below.trod laidOut (by kernel_rfl) (of_decide_eq_true (by kernel_rfl)) k3 bel lt3) (trodAll_cons_mk (Below.trod laidOut (by kernel_rfl) (of_decide_eq_true (by kernel_rfl)) k4 bel lt4) (trodAll_cons_mk (Below.trod laidOut (by kernel_rfl) (of_decide_eq_true (by kernel_rfl)) k5 bel lt5) trodAll_mk0)))))),rfl,bel.frame _,fun h=>by cases h⟩

theorem over:Rows.stunGuardsRow.holds Tryz.pinned (OpenSpec.ofChange Rows.stunGuardsSpec) :=
 OpenClaim.holds_of_wide 10 Tryz.f10 rfl rfl rfl rfl rfl rfl rfl ⟨rfl,rfl,rfl,rfl,rfl⟩ rfl rfl rfl rfl rfl (by kernel_rfl) Tryz.func10 (by kernel_rfl)
  (of_decide_eq_true (by kernel_rfl)) (by unfold Func.isWrapper; first | (rw [if_pos (by decide +kernel)]; kernel_rfl) | (rw [if_neg (by decide +kernel)]; exact ⟨rfl,rfl⟩))
  (fun os started H enc _=>lifted os started H enc)

theorem proved:Rows.StunGuardsCardSaid :=
 Claim7.holds_tied_plain_at .later [] [.data,.pinned] true (true,"5f27dd6ed70dca3cf563e9660767357bc6414374a73c6f1dd9ec93831559d27f") true
  over (fun _ h=>by cases h) (by kernel_rfl) (fun _ h=>by cases h) stunGuards_row_tie rfl ⟨rfl,rfl⟩ (by kernel_rfl) rfl
  (fun f fn hf hfn=>by
   obtain rfl:f=10:=Option.some.inj ((show Tryz.prog.funcNamed "tannoy/tannoylaw08.StunGuards" = some 10 by kernel_rfl).symm.trans hf) |>.symm
   obtain rfl:fn=Tryz.f10:=(Option.some.inj (Tryz.func10.symm.trans hfn)).symm
   exact ⟨by kernel_rfl,fun j t ht=>by
    rw [Tryz.params10] at ht
    have hm:t∈[24,28,30,30,9,4]:=by simpa using Array.mem_of_getElem? ht
    have hall:([24,28,30,30,9,4].all fun u=>!Tryz.prog.wantsStandIn u)=true:=by kernel_rfl
    exact (show Tryz.prog.wantsStandIn t=false by simpa using List.all_eq_true.1 hall t hm)⟩)
  (by kernel_rfl)
#print axioms proved
end Go.Proofs.YtmlmfmdmomegpaaGreatDoor.stunGuards
