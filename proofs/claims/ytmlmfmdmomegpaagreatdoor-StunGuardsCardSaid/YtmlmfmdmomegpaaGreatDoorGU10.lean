/- Chapter 08: the examples, computed. -/
/- Chapter 08: the examples hold. -/
/- Chapter 08: mixed values are read. -/
/- Chapter 08: mixed values are read by the reference. -/
/- Chapter 08: drafted addresses. -/
/- Chapter 08: plain laws of mixed values and of values of errors. -/
/- Chapter 08: StunMixes. -/
/- Chapter 08: StunValues. -/
/- Chapter 08: StunBack. -/
/- Chapter 08: the four messages of a law. -/
/- Chapter 08: StunFinds. -/
/- Chapter 08: Protect and Mark, each in one contract. -/
/- Chapter 02: the reference's words, as lists of bits. -/
/- Chapter 02: the reference's octets and numbers. -/
import Derived.Test.YtmlmfmdmomegpaaGreatDoorGU09
import Derived.Test.YtmlmfmdmomegpaaGreatDoorGU08
import Derived.Test.YtmlmfmdmomegpaaGreatDoorGU06
import Derived.Test.YtmlmfmdmomegpaaGreatDoorGU07
import Derived.Test.YtmlmfmdmomegpaaGreatDoorGU05
namespace Go.Proofs.YtmlmfmdmomegpaaGreatDoor
set_option linter.unusedSimpArgs false
set_option linter.unusedVariables false
set_option maxRecDepth 100000
open Go.RowKit V
set_option maxHeartbeats 12800000
theorem Decode_no {W:World} (s:ByteArray) (hs:s.size≤maxLen) (h:decC s≠0) :
  Calls Tryz.prog 19 #[.string s] W fun e w'=>e = .returned (.tuple #[zStun,.int .i64 (decC s)])∧Ext W w' :=
 (Decode_c s hs).mono fun _ _ hh=>by
  rcases hh with ⟨h0,_⟩ | ⟨_,h1,h2⟩
  ·exact absurd h0 h
  ·exact ⟨h1,h2⟩
theorem SA.of_blk {w:World} {q n e:Nat} {al:List At2} (h:Blk w q (flatC al) e) (hn:al.length=n) (hm:n≤maxLen):SA w (.slice (some ⟨q,0,none⟩) n n) al:=by
 subst hn
 refine .inr (.inr ⟨q,0,al.length,by rw [List.length_map],by rw [List.length_map]; exact Nat.le_refl _,hm,fun j x hj=>?_⟩)
 rw [List.getElem?_map,Option.map_eq_some_iff] at hj
 obtain ⟨a,ha,rfl⟩:=hj
 refine ⟨rfl,fun i y hy=>?_⟩
 have hi:i < 2:=(List.getElem?_eq_some_iff.1 hy).1
 have h2:=flatC_at al j a ha
 have h3:(flatC al)[j * 2+i]? = some y:=by
  rw [← h2,List.getElem?_take,if_pos hi,List.getElem?_drop] at hy
  exact hy
 rw [Nat.zero_add]
 exact (h.cell (j * 2+i)).trans h3
def doneL:List At2:=[(6,(⟨#[97,98]⟩:ByteArray))]
def oddL:List At2:=[(6,(⟨#[120]⟩:ByteArray)),(5,⟨#[]⟩),(32800,⟨#[]⟩),(5,⟨#[]⟩),(6,(⟨#[121]⟩:ByteArray))]
def exM:ByteArray:=macB (⟨#[107]⟩:ByteArray) (wrB 0 1 idC [] 36)
theorem k_s0:stunB 0 1 idC []=true:=by decide +kernel
theorem k_s1:stunB 2 1 idC doneL=true:=by decide +kernel
theorem k_s2:stunB 0 1 idC oddL=true:=by decide +kernel
theorem k_s3:stunB 0 1 idC ([]++[(8,exM)])=true:=by decide +kernel
theorem k_x0:(⟨(hexL (wrB 0 1 idC [] 0).data.toList).toArray⟩:ByteArray)=(⟨#[48,48,48,49,48,48,48,48,50,49,49,50,97,52,52,50,48,48,48,49,48,50,48,51,48,52,48,53,48,54,48,55,48,56,48,57,48,97,48,98]⟩:ByteArray):=by decide +kernel
theorem k_x1:(⟨(hexL (wrB 2 1 idC doneL 0).data.toList).toArray⟩:ByteArray)=(⟨#[48,49,48,49,48,48,48,56,50,49,49,50,97,52,52,50,48,48,48,49,48,50,48,51,48,52,48,53,48,54,48,55,48,56,48,57,48,97,48,98,48,48,48,54,48,48,48,50,54,49,54,50,48,48,48,48]⟩:ByteArray):=by decide +kernel
theorem k_x2:(⟨(hexL (mixB idC ⟨#[192,0,2,1]⟩ 32853).data.toList).toArray⟩:ByteArray)=(⟨#[48,48,48,49,97,49,52,55,101,49,49,50,97,54,52,51]⟩:ByteArray):=by decide +kernel
theorem k_x3:(⟨(hexL (reasonB 487 (⟨#[120]⟩:ByteArray)).data.toList).toArray⟩:ByteArray)=(⟨#[48,48,48,48,48,52,53,55,55,56]⟩:ByteArray):=by decide +kernel
theorem k_z0:(wrB 0 1 idC [] 0).size=20:=by decide +kernel
theorem k_d0:decC ((wrB 0 1 idC [] 0).extract 0 19)=7:=by decide +kernel
theorem k_d1:decC (wrB 0 1 idC [] 0++(⟨#[120]⟩:ByteArray))=5:=by decide +kernel
theorem k_d2:decC ((wrB 0 1 idC [] 0).extract 0 3++⟨#[4]⟩++(wrB 0 1 idC [] 0).extract 4 20)=7:=by decide +kernel
theorem k_u:unL oddL=[5]:=by decide +kernel
theorem k_f0:findC 0 1 idC oddL 6=((⟨#[120]⟩:ByteArray),0):=by decide +kernel
theorem k_f1:findC 0 1 idC oddL 7=(⟨#[]⟩,4):=by decide +kernel
theorem k_v0:verC 0 1 idC (⟨#[107]⟩:ByteArray) []=4:=by decide +kernel
theorem k_v1:verC 0 1 idC (⟨#[107]⟩:ByteArray) [(8,exM)]=0:=by decide +kernel
theorem k_v2:verC 0 1 idC (⟨#[108]⟩:ByteArray) [(8,exM)]=9:=by decide +kernel
set_option maxHeartbeats 12800000
theorem works_p:PureF Tryz.prog 12 #[] (.bool true):=by
 have c1:=fun (w:World)=>Encode_ok (W:=w) 0 1 idC SA.nil8 k_s0
 have z0:=k_z0
 have x0:=k_x0
 have d0:=k_d0
 have d1:=k_d1
 have d2:=k_d2
 generalize wrB 0 1 idC [] 0=S at *
 have z19:=size_extract S 0 19 (by omega)
 have z3:=size_extract S 0 3 (by omega)
 have z4:=size_extract S 4 S.size (by omega)
 have d2:decC (S.extract 0 3++⟨#[4]⟩++S.extract 4 S.size)=7:=by rw [z0]; exact d2
 have e1:=fun (w:World)=>Decode_no (W:=w) (S.extract 0 19) (by unfold maxLen; omega) (by rw [d0]; decide)
 have e2:=fun (w:World)=>Decode_no (W:=w) (S++(⟨#[120]⟩:ByteArray)) (by rw [ByteArray.size_append,z0]; decide) (by rw [d1]; decide)
 have e3:=fun (w:World)=>Decode_no (W:=w) (S.extract 0 3++⟨#[4]⟩++S.extract 4 S.size) (by rw [ByteArray.size_append,ByteArray.size_append,z3,z4,z0]; decide) (by rw [d2]; decide)
 rw [d0] at e1
 rw [d1] at e2
 rw [d2] at e3
 have pr:=fun (w:World)=>Protect_ok (W:=w) 0 1 idC (⟨#[107]⟩:ByteArray) SA.nil8 k_s0 (by decide) rfl rfl k_s3
 have v0:=fun (w:World)=>Verify_c (W:=w) 0 1 idC (⟨#[107]⟩:ByteArray) SA.nil8
 rw [k_v0] at v0
 have v1:=fun (w:World) (v:Value) (hv:SA w v [(8,exM)])=>Verify_c 0 1 idC (⟨#[107]⟩:ByteArray) hv
 have v2:=fun (w:World) (v:Value) (hv:SA w v [(8,exM)])=>Verify_c 0 1 idC (⟨#[108]⟩:ByteArray) hv
 rw [k_v1] at v1
 rw [k_v2] at v2
 have hM:macB (⟨#[107]⟩:ByteArray) (wrB 0 1 idC [] 36)=exM:=rfl
 rw [hM] at pr
 clear hM
 generalize exM=M at *
 first | refine v_pure TTok FFok Tryz.func12 rfl rfl fun w0=>?_ | refine v_pure (args:=[]) TTok FFok Tryz.func12 rfl rfl fun w0=>?_
 conv=>whnf
 refine VSeq.mk fun Kq hKq=>?_
 conv=>whnf
 refine hKq _ _ _ (.refl _) ?_
 clear hKq Kq
 conv=>whnf
 refine VSeq.mk fun Kq hKq=>?_
 conv=>whnf
 have hp:=Hp.nil w0
 refine PureF.use (chapter_p) fun w hx=>?_
 try (have hp:=hp.call hx)
 conv=>whnf
 (refine hp.kalloc z24 fun al24 w hp hx=>?_; conv=>whnf)
 (refine hp.kstA TTok rfl 0 rfl rfl (oneC_of rfl) (by rfl) fun w hp=>?_; try simp only [List.set_cons_zero,List.set_cons_succ,EV.val] at hp; conv=>whnf)
 (refine hKq _ _ _ (.refl _) ?_; clear hKq Kq; conv=>whnf)
 (refine VSeq.mk fun Kq hKq=>?_; conv=>whnf)
 (refine ⟨_,_,Blk.ldV (vs:=[_,_,_,_]) (hp.get (i:=0) rfl) TTok rfl rfl rfl,?_⟩; conv=>whnf)
 (refine ⟨_,_,bld54_0_1 _ _ _,?_⟩; conv=>whnf)
 (refine hp.kmade _ _ (fun b=>.slice (some ⟨b,0,none⟩) 1 1) (mks22_1_0 _ _ _) fun q w hp hx=>?_; conv=>whnf)
 obtain ⟨b1,rfl⟩:∃ q,q=al24:=⟨al24,rfl⟩
 have hd:SA w (.slice (some ⟨q,0,none⟩) 1 1) doneL:=SA.of_blk (hp.get (i:=0) rfl) rfl (by unfold maxLen; decide)
 refine Calls.mono (with8_c 0 1 idC SA.nil8 hd (by decide) (by decide)) ?_
 rintro _ w ⟨_,rfl,dv,rfl,hr⟩
 refine ⟨_,rfl,?_⟩
 have hp:=hp.join hr
 clear hr hd
 simp only [List.cons_append,List.nil_append] at hp
 obtain ⟨pd,cd,rfl⟩:=row_shape (hp.get (i:=0) rfl)
 conv=>whnf
 (refine hp.kalloc z24 fun al24 w hp hx=>?_; conv=>whnf)
 (refine hp.kstA TTok rfl 0 rfl rfl (oneC_of rfl) (by rfl) fun w hp=>?_; try simp only [List.set_cons_zero,List.set_cons_succ,EV.val] at hp; conv=>whnf)
 (refine hKq _ _ _ (.refl _) ?_; clear hKq Kq; conv=>whnf)
 (refine VSeq.mk fun Kq hKq=>?_; conv=>whnf)
 (refine hp.kst1 TTok (by rfl) 0 (by rfl) (by rfl) (by rfl) (Nat.le_of_ble_eq_true rfl) fun w hp=>?_; try simp only [List.set_cons_zero,List.set_cons_succ,EV.val] at hp; conv=>whnf)
 (refine hKq _ _ _ (.refl _) ?_; clear hKq Kq; conv=>whnf)
 (refine VSeq.mk fun Kq hKq=>?_; conv=>whnf)
 (refine ⟨_,_,Blk.ldV (vs:=[_,_,_,_]) (hp.get (i:=3) rfl) TTok rfl rfl rfl,?_⟩; conv=>whnf)
 obtain ⟨b2,rfl⟩:∃ q,q=al24:=⟨al24,rfl⟩
 have hp:HpM [] w0 w [blk b2 [.int .i64 2,.int .i64 1,.string idC,.slice pd 1 cd] 24,row 54 2 (.slice pd 1 cd) 1 (flatC doneL),blk q [.int .i64 6,.string (⟨#[97,98]⟩:ByteArray)] 54,blk b1 [.int .i64 0,.int .i64 1,.string idC,.slice none 0 0] 24]:=hp
 have hp:=hp.pick [0,1,3] (by decide)
 simp only [List.filterMap_cons,List.filterMap_nil,List.getElem?_cons_zero,List.getElem?_cons_succ] at hp
 refine V.CallsUse (c1 _) fun w hx=>?_
 try (have hp:=hp.call hx)
 conv=>whnf
 refine hKq _ _ _ (.refl _) ?_
 clear hKq Kq
 conv=>whnf
 refine VSeq.mk fun Kq hKq=>?_
 conv=>whnf
 refine VSeq.mk fun Kq hKq=>?_
 conv=>whnf
 refine VSeq.mk fun Kq hKq=>?_
 conv=>whnf
 refine hKq _ _ _ (.refl _) ?_
 clear hKq Kq
 conv=>whnf
 (refine And.intro (fun h=>absurd (of_decide_eq_true h) (by first | (intro h2; exact absurd rfl h2) | omega | decide)) (fun _=>?_); conv=>whnf)
 (refine hKq _ _ _ (.refl _) ?_; clear hKq Kq; conv=>whnf)
 (refine And.intro (fun h=>absurd (of_decide_eq_true h) (by first | (intro h2; exact absurd rfl h2) | omega | decide)) (fun _=>?_); conv=>whnf)
 (refine hKq _ _ _ (.refl _) ?_; clear hKq Kq; conv=>whnf)
 (refine VSeq.mk fun Kq hKq=>?_; conv=>whnf)
 (refine ⟨_,_,Blk.ldV (vs:=[_,_,_,_]) (hp.get (i:=2) rfl) TTok rfl rfl rfl,?_⟩; conv=>whnf)
 (refine ⟨_,_,bld54_0_1 _ _ _,?_⟩; conv=>whnf)
 (refine ⟨_,_,bld54_0 _ _,?_⟩; conv=>whnf)
 (refine ⟨_,_,bld54_0 _ _,?_⟩; conv=>whnf)
 (refine ⟨_,_,bld54_0 _ _,?_⟩; conv=>whnf)
 (refine ⟨_,_,bld54_0_1 _ _ _,?_⟩; conv=>whnf)
 (refine hp.kmade _ _ (fun b=>.slice (some ⟨b,0,none⟩) 5 5) (mks22_5_0_1_2_3_4 _ _ _ _ _ _ _ _ _ _ _) fun q w hp hx=>?_; conv=>whnf)
 have hd:SA w (.slice (some ⟨q,0,none⟩) 5 5) oddL:=SA.of_blk (hp.get (i:=0) rfl) rfl (by unfold maxLen; decide)
 refine Calls.mono (with8_c 0 1 idC SA.nil8 hd (by decide) (by decide)) ?_
 rintro _ w ⟨_,rfl,dv,rfl,hr⟩
 refine ⟨_,rfl,?_⟩
 have hp:=hp.join hr
 clear hr hd
 simp only [List.cons_append,List.nil_append] at hp
 obtain ⟨po,co,rfl⟩:=row_shape (hp.get (i:=0) rfl)
 conv=>whnf
 (refine hp.kalloc z24 fun al24 w hp hx=>?_; conv=>whnf)
 (refine hp.kstA TTok rfl 0 rfl rfl (oneC_of rfl) (by rfl) fun w hp=>?_; try simp only [List.set_cons_zero,List.set_cons_succ,EV.val] at hp; conv=>whnf)
 (refine hKq _ _ _ (.refl _) ?_; clear hKq Kq; conv=>whnf)
 (refine VSeq.mk fun Kq hKq=>?_; conv=>whnf)
 (refine ⟨_,_,Blk.ldV (vs:=[_,_,_,_]) (hp.get (i:=0) rfl) TTok rfl rfl rfl,?_⟩; conv=>whnf)
 obtain ⟨b5,rfl⟩:∃ q,q=al24:=⟨al24,rfl⟩
 have hp:=hp.pick [0,1,3,4,5] (by decide)
 simp only [List.filterMap_cons,List.filterMap_nil,List.getElem?_cons_zero,List.getElem?_cons_succ] at hp
 have hp:HpM [] w0 w [blk b5 [.int .i64 0,.int .i64 1,.string idC,.slice po 5 co] 24,row 54 2 (.slice po 5 co) 5 (flatC oddL),blk b2 [.int .i64 2,.int .i64 1,.string idC,.slice pd 1 cd] 24,row 54 2 (.slice pd 1 cd) 1 (flatC doneL),blk b1 [.int .i64 0,.int .i64 1,.string idC,.slice none 0 0] 24]:=hp
 have hu:=Unknown_ok (al:=oddL) 0 1 idC (SA.of_row (hp.get (i:=1) rfl)) k_s2
 refine Calls.mono hu ?_
 clear hu
 rintro _ w ⟨_,rfl,lv,rfl,hr⟩
 refine ⟨_,rfl,?_⟩
 rw [k_u] at hr
 have hp:=hp.join hr
 clear hr
 simp only [List.cons_append,List.nil_append] at hp
 obtain ⟨pl,cl,rfl⟩:=row_shape (hp.get (i:=0) rfl)
 conv=>whnf
 (refine hKq _ _ _ (.refl _) ?_; clear hKq Kq; conv=>whnf)
 (refine VSeq.mk fun Kq hKq=>?_; conv=>whnf)
 (refine ⟨_,_,Blk.ldV (vs:=[_,_,_,_]) (hp.get (i:=1) rfl) TTok rfl rfl rfl,?_⟩; conv=>whnf)
 have hf:=Find_c (al:=oddL) 0 1 idC 6 (SA.of_row (hp.get (i:=2) rfl))
 rw [k_f0] at hf
 refine V.CallsUse (hf) fun w hx=>?_
 try (have hp:=hp.call hx)
 conv=>whnf
 refine hKq _ _ _ (.refl _) ?_
 clear hKq Kq
 conv=>whnf
 refine VSeq.mk fun Kq hKq=>?_
 conv=>whnf
 clear hf
 (refine ⟨_,_,Blk.ldV (vs:=[_,_,_,_]) (hp.get (i:=5) rfl) TTok rfl rfl rfl,?_⟩; conv=>whnf)
 refine Calls.mono (pr _) ?_
 clear pr
 rintro _ w ⟨_,rfl,pv,rfl,hr⟩
 refine ⟨_,rfl,?_⟩
 have hp:=hp.join hr
 clear hr
 simp only [List.cons_append,List.nil_append] at hp
 obtain ⟨pp,cp,rfl⟩:=row_shape (hp.get (i:=0) rfl)
 conv=>whnf
 (refine hp.kalloc z24 fun al24 w hp hx=>?_; conv=>whnf)
 (refine hp.kstA TTok rfl 0 rfl rfl (oneC_of rfl) (by rfl) fun w hp=>?_; try simp only [List.set_cons_zero,List.set_cons_succ,EV.val] at hp; conv=>whnf)
 (refine hKq _ _ _ (.refl _) ?_; clear hKq Kq; conv=>whnf)
 (refine VSeq.mk fun Kq hKq=>?_; conv=>whnf)
 obtain ⟨b10,rfl⟩:∃ q,q=al24:=⟨al24,rfl⟩
 have hp:HpM [] w0 w [blk b10 [.int .i64 0,.int .i64 1,.string idC,.slice pp 1 cp] 24,row 54 2 (.slice pp 1 cp) 1 (flatC [(8,M)]),row 3 1 (.slice pl 1 cl) 1 [.int .i64 5],blk b5 [.int .i64 0,.int .i64 1,.string idC,.slice po 5 co] 24,row 54 2 (.slice po 5 co) 5 (flatC oddL),blk b2 [.int .i64 2,.int .i64 1,.string idC,.slice pd 1 cd] 24,row 54 2 (.slice pd 1 cd) 1 (flatC doneL),blk b1 [.int .i64 0,.int .i64 1,.string idC,.slice none 0 0] 24]:=hp
 refine v_mixA TTok FFok mixed [(1,false),(0,true),(2,false),(3,false),(4,false),(5,false),(6,false),(8,false),(7,true),(9,false),(10,false),(11,false),(12,false),(13,false),(14,false),(16,false),(17,false),(18,false),(15,true),(19,false),(20,false),(21,false),(22,false),(23,false),(24,false),(26,false),(27,false),(25,true),(28,false),(29,false),(30,false),(31,false),(32,false),(33,false),(35,false),(36,false),(34,true),(37,false),(38,false),(39,false),(40,false),(41,false),(42,false),(44,false),(45,false),(46,false),(47,false),(48,false),(49,false),(43,true),(50,false),(51,false),(52,false),(53,false),(54,false),(55,false)] (by kernel_rfl) ?_
 conv=>whnf
 refine ⟨_,fun w' hx'=>Blk.ldN (Blk.ext (hp.get (i:=7) rfl) hx') TTok rfl (rfl),?_⟩
 conv=>whnf
 intro w hx
 try (have hp:=hp.call hx)
 conv=>whnf
 skip
 refine Calls.mono (is_c hp _) ?_
 rintro _ w ⟨v,rfl,bb,rfl,hp,hx⟩
 refine ⟨_,rfl,?_⟩
 conv=>whnf
 refine And.intro hx ?_
 conv=>whnf
 refine ⟨_,fun w1 _=>c1 w1,?_⟩
 conv=>whnf
 refine ⟨_,fun w1 hx'=>is_in S x0 (by omega) (Blk.ext (hp.get (i:=0) rfl) hx'),?_⟩
 conv=>whnf
 refine And.intro (fun _=>?_) (fun h=>by cases h)
 conv=>whnf
 refine ⟨_,fun w' hx'=>Blk.ldN (Blk.ext (hp.get (i:=6) rfl) hx') TTok rfl (rfl),?_⟩
 conv=>whnf
 intro w hx
 try (have hp:=hp.call hx)
 conv=>whnf
 skip
 refine Calls.mono (is_c hp _) ?_
 rintro _ w ⟨v,rfl,bb,rfl,hp,hx⟩
 refine ⟨_,rfl,?_⟩
 conv=>whnf
 refine And.intro hx ?_
 conv=>whnf
 refine ⟨_,fun w1 hx'=>Encode_ok (al:=doneL) 2 1 idC ((SA.of_row (hp.get (i:=8) rfl)).ext hx') k_s1,?_⟩
 conv=>whnf
 refine ⟨_,fun w1 hx'=>is_in _ k_x1 (by decide +kernel) (Blk.ext (hp.get (i:=0) rfl) hx'),?_⟩
 conv=>whnf
 refine And.intro (fun _=>?_) (fun h=>by cases h)
 conv=>whnf
 refine ⟨_,fun w' hx'=>Blk.ld (off:=2) (Blk.ext (hp.get (i:=9) rfl) hx') TTok rfl rfl,?_⟩
 conv=>whnf
 (refine ⟨_,fun w' hx'=>bld63_0_1 w' _ _,?_⟩; conv=>whnf)
 (intro w hx; try (have hp:=hp.call hx); conv=>whnf)
 refine Calls.mono (is_c hp _) ?_
 rintro _ w ⟨v,rfl,bb,rfl,hp,hx⟩
 refine ⟨_,rfl,?_⟩
 conv=>whnf
 refine And.intro hx ?_
 conv=>whnf
 first | refine PureF.quiet (Mixed_ok idC ⟨#[192,0,2,1]⟩ 32853 rfl rfl (by decide)) ?_ | refine PureF.quietE (Mixed_ok idC ⟨#[192,0,2,1]⟩ 32853 rfl rfl (by decide)) ?_
 conv=>whnf
 refine ⟨_,fun w1 hx'=>is_in _ k_x2 (by decide +kernel) (Blk.ext (hp.get (i:=0) rfl) hx'),?_⟩
 conv=>whnf
 refine And.intro (fun _=>?_) (fun h=>by cases h)
 conv=>whnf
 refine ⟨19,⟨by first | rfl | omega,by omega⟩,?_⟩
 conv=>whnf
 intro w hx
 try (have hp:=hp.call hx)
 conv=>whnf
 skip
 refine Calls.mono (refuses_c hp _) ?_
 rintro _ w ⟨v,rfl,bb,rfl,hp,hx⟩
 refine ⟨_,rfl,?_⟩
 conv=>whnf
 refine And.intro hx ?_
 conv=>whnf
 refine ⟨_,fun w1 _=>e1 w1,?_⟩
 conv=>whnf
 refine ⟨_,fun w1 hx'=>refuses_in (Blk.ext (hp.get (i:=0) rfl) hx'),?_⟩
 conv=>whnf
 refine And.intro (fun _=>?_) (fun h=>by cases h)
 conv=>whnf
 refine And.intro (by rw [z0]; decide) ?_
 conv=>whnf
 intro w hx
 try (have hp:=hp.call hx)
 conv=>whnf
 skip
 refine Calls.mono (refuses_c hp _) ?_
 rintro _ w ⟨v,rfl,bb,rfl,hp,hx⟩
 refine ⟨_,rfl,?_⟩
 conv=>whnf
 refine And.intro hx ?_
 conv=>whnf
 refine ⟨_,fun w1 _=>e2 w1,?_⟩
 conv=>whnf
 refine ⟨_,fun w1 hx'=>refuses_in (Blk.ext (hp.get (i:=0) rfl) hx'),?_⟩
 conv=>whnf
 refine And.intro (fun _=>?_) (fun h=>by cases h)
 conv=>whnf
 refine ⟨3,⟨by first | rfl | omega,by omega⟩,?_⟩
 conv=>whnf
 refine And.intro (by rw [z3]; decide) ?_
 conv=>whnf
 refine ⟨4,⟨by first | rfl | omega,by omega⟩,?_⟩
 conv=>whnf
 refine And.intro (by rw [ByteArray.size_append,z3,z4,z0]; decide) ?_
 conv=>whnf
 intro w hx
 try (have hp:=hp.call hx)
 conv=>whnf
 skip
 refine Calls.mono (refuses_c hp _) ?_
 rintro _ w ⟨v,rfl,bb,rfl,hp,hx⟩
 refine ⟨_,rfl,?_⟩
 conv=>whnf
 refine And.intro hx ?_
 conv=>whnf
 refine ⟨_,fun w1 _=>e3 w1,?_⟩
 conv=>whnf
 refine ⟨_,fun w1 hx'=>refuses_in (Blk.ext (hp.get (i:=0) rfl) hx'),?_⟩
 conv=>whnf
 intro w hx
 try (have hp:=hp.call hx)
 conv=>whnf
 refine hKq _ _ _ (.refl _) ?_
 clear hKq Kq
 conv=>whnf
 refine VSeq.mk fun Kq hKq=>?_
 conv=>whnf
 clear c1 e1 e2 e3
 refine v_mixA TTok FFok mixed [(0,false),(1,false),(2,false),(3,false),(4,false),(5,false),(6,false),(7,true),(8,false),(9,false),(10,false),(11,false),(12,false),(13,false),(14,false),(15,false),(16,false),(17,false),(18,false),(20,false),(19,true),(21,false),(22,false),(23,false),(24,false),(25,false),(26,false),(27,true),(28,false),(29,false),(30,false),(31,false),(32,false),(33,false),(34,true),(35,false),(36,false),(37,false),(38,false),(39,false),(40,false)] (by kernel_rfl) ?_
 conv=>whnf
 refine And.intro (fun _=>?_) (fun h=>by cases h)
 conv=>whnf
 refine And.intro (fun _=>?_) (fun h=>absurd (rfl) (of_decide_eq_false h))
 conv=>whnf
 intro w hx
 try (have hp:=hp.call hx)
 conv=>whnf
 obtain ⟨_,w,hr,tb,rfl,hp,hx⟩:∃ u w',(Instr.buildSlice 48 1 #[(0,.int .i64 5)]).run Tryz.prog w = .ok u w'∧∃ b,u = .slice (some ⟨b,0,none⟩) 1 1∧HpM [] w0 w' (blk b [.int .i64 5] 3 :: _)∧Ext w w':=hp.kmade _ _ (fun b=>.slice (some ⟨b,0,none⟩) 1 1) (mks48_1_0 _ 5) fun tb w hp hx=>⟨tb,rfl,hp,hx⟩
 refine ⟨_,_,hr,?_⟩
 clear hr
 conv=>whnf
 refine And.intro hx ?_
 conv=>whnf
 refine ⟨_,fun w1 hx'=>ints8_c [5] [5] ((SLv.of_row (hp.get (i:=9) rfl)).ext hx') ((SLv.of_blk0 (hp.get (i:=0) rfl) rfl).ext hx') (by decide) (by decide),?_⟩
 conv=>whnf
 refine And.intro (fun _=>?_) (fun h=>absurd (rfl) (of_decide_eq_false h))
 conv=>whnf
 refine And.intro (fun _=>?_) (fun h=>absurd (rfl) (of_decide_eq_false h))
 conv=>whnf
 refine And.intro (fun _=>?_) (fun h=>absurd (rfl) (of_decide_eq_false h))
 conv=>whnf
 refine ⟨_,fun w' hx'=>Blk.ldN (Blk.ext (hp.get (i:=10) rfl) hx') TTok rfl (rfl),?_⟩
 conv=>whnf
 intro w hx
 try (have hp:=hp.call hx)
 conv=>whnf
 skip
 refine Calls.mono (fails_c hp _) ?_
 rintro _ w ⟨v,rfl,bb,rfl,hp,hx⟩
 refine ⟨_,rfl,?_⟩
 conv=>whnf
 refine And.intro hx ?_
 conv=>whnf
 have hf7:=fun (w1:World) (hx':Ext w w1)=>Find_c (al:=oddL) 0 1 idC 7 ((SA.of_row (hp.get (i:=12) rfl)).ext hx')
 rw [k_f1] at hf7
 refine ⟨_,hf7,?_⟩
 conv=>whnf
 clear hf7
 refine ⟨_,fun w1 hx'=>fails_in (Blk.ext (hp.get (i:=0) rfl) hx'),?_⟩
 conv=>whnf
 intro w hx
 try (have hp:=hp.call hx)
 conv=>whnf
 (refine And.intro (fun _=>?_) (fun h=>by cases h))
 refine Calls.mono (is_c hp _) ?_
 rintro _ w ⟨v,rfl,bb,rfl,hp,hx⟩
 refine ⟨_,rfl,?_⟩
 conv=>whnf
 refine And.intro hx ?_
 conv=>whnf
 first | refine PureF.quiet (Reason_ok 487 (⟨#[120]⟩:ByteArray) (by decide) (by decide) (by decide)) ?_ | refine PureF.quietE (Reason_ok 487 (⟨#[120]⟩:ByteArray) (by decide) (by decide) (by decide)) ?_
 conv=>whnf
 refine ⟨_,fun w1 hx'=>is_in _ k_x3 (by decide +kernel) (Blk.ext (hp.get (i:=0) rfl) hx'),?_⟩
 conv=>whnf
 intro w hx
 try (have hp:=hp.call hx)
 conv=>whnf
 (refine And.intro (fun _=>?_) (fun h=>by cases h))
 refine Calls.mono (fails_c hp _) ?_
 rintro _ w ⟨v,rfl,bb,rfl,hp,hx⟩
 refine ⟨_,rfl,?_⟩
 conv=>whnf
 refine And.intro hx ?_
 conv=>whnf
 first | refine PureF.quiet (Reason_arg 299 ⟨#[]⟩ (by decide)) ?_ | refine PureF.quietE (Reason_arg 299 ⟨#[]⟩ (by decide)) ?_
 conv=>whnf
 refine ⟨_,fun w1 hx'=>fails_in (Blk.ext (hp.get (i:=0) rfl) hx'),?_⟩
 conv=>whnf
 intro w hx
 try (have hp:=hp.call hx)
 conv=>whnf
 refine hKq _ _ _ (.refl _) ?_
 clear hKq Kq
 conv=>whnf
 refine VSeq.mk fun Kq hKq=>?_
 conv=>whnf
 refine VSeq.mk fun Kq hKq=>?_
 conv=>whnf
 refine hKq _ _ _ (.refl _) ?_
 clear hKq Kq
 conv=>whnf
 refine VSeq.mk fun Kq hKq=>?_
 conv=>whnf
 refine And.intro (fun _=>?_) (fun h=>by cases h)
 conv=>whnf
 refine ⟨_,_,Blk.ldN (hp.get (i:=17) rfl) TTok rfl (rfl),?_⟩
 conv=>whnf
 refine V.CallsUse (v0 _) fun w hx=>?_
 try (have hp:=hp.call hx)
 conv=>whnf
 refine hKq _ _ _ (.refl _) ?_
 clear hKq Kq
 conv=>whnf
 refine VSeq.mk fun Kq hKq=>?_
 conv=>whnf
 refine And.intro (fun _=>?_) (fun h=>absurd (rfl) (of_decide_eq_false h))
 conv=>whnf
 refine hKq _ _ _ (.refl _) ?_
 clear hKq Kq
 conv=>whnf
 refine VSeq.mk fun Kq hKq=>?_
 conv=>whnf
 refine And.intro (fun _=>?_) (fun h=>absurd (rfl) (of_decide_eq_false h))
 conv=>whnf
 refine ⟨_,_,Blk.ldN (hp.get (i:=10) rfl) TTok rfl (rfl),?_⟩
 conv=>whnf
 refine V.CallsUse (v1 _ _ (SA.of_row (hp.get (i:=11) rfl))) fun w hx=>?_
 try (have hp:=hp.call hx)
 conv=>whnf
 refine hKq _ _ _ (.refl _) ?_
 clear hKq Kq
 conv=>whnf
 refine And.intro (fun _=>?_) (fun h=>absurd (rfl) (of_decide_eq_false h))
 conv=>whnf
 refine ⟨_,_,Blk.ldN (hp.get (i:=10) rfl) TTok rfl (rfl),?_⟩
 conv=>whnf
 refine V.CallsUse (v2 _ _ (SA.of_row (hp.get (i:=11) rfl))) fun w hx=>?_
 try (have hp:=hp.call hx)
 conv=>whnf
 refine hKq _ _ _ (.refl _) ?_
 clear hKq Kq
 conv=>whnf
 exact ⟨congrArg Value.bool (decide_eq_true rfl),hp.ext⟩
set_option maxHeartbeats 6400000
set_option maxHeartbeats 6400000
set_option maxHeartbeats 12800000

set_option maxHeartbeats 12800000
theorem u16_rd {w:World} {cs:List Value} (h:Rd w (.int .u16) cs):∃ n:Nat,n < 65536∧cs=[.int .u16 n]:=by
 obtain ⟨n,rfl,hn⟩:=h
 simp [Lit.wf,IntKind.has,IntKind.min,IntKind.max,IntKind.signed,IntKind.bits] at hn
 exact ⟨n.toNat,by omega,by rw [Int.toNat_of_nonneg hn.1]⟩
theorem u8_rd {w:World} {cs:List Value} (h:Rd w (.int .u8) cs):∃ n:Nat,n < 256∧cs=[.int .u8 n]:=by
 obtain ⟨n,rfl,hn⟩:=h
 simp [Lit.wf,IntKind.has,IntKind.min,IntKind.max,IntKind.signed,IntKind.bits] at hn
 exact ⟨n.toNat,by omega,by rw [Int.toNat_of_nonneg hn.1]⟩
set_option maxHeartbeats 25600000
set_option maxHeartbeats 25600000
def sh8P:Sh:=.cons (.int .u8) (.cons (.int .u16) (.cons .str .nil))
theorem pc_rd {w:World} {cs:List Value} (h:Rd w (.ag sh8P) cs):∃ p:Pc3,PcOk p∧cs=pcC p:=by
 obtain ⟨_,_,rfl,h1,_,_,rfl,h2,_,_,rfl,⟨s,rfl,hs⟩,h3⟩:=h
 obtain rfl:_=[]:=h3
 obtain ⟨a,ha,rfl⟩:=u8_rd h1
 obtain ⟨k,hk,rfl⟩:=u16_rd h2
 exact ⟨(a,k,s),⟨ha,hk,hs⟩,rfl⟩
def sh8M:Sh:=.cons (.int .u8) (.cons (.int .u16) (.cons .str (.cons (.sl (.ag sh8P)) .nil)))
theorem draft_rd {w:World} {cs:List Value} (h:Rd w sh8M cs):∃ (c8 m16:Nat) (id:ByteArray) (v:Value) (ps:List Pc3),c8 < 256∧m16 < 65536∧id.size≤maxLen∧SPc w v ps∧(∀ p∈ps,PcOk p)∧cs=[.int .u8 c8,.int .u16 m16,.string id,v]:=by
 obtain ⟨_,_,rfl,h1,_,_,rfl,h2,_,_,rfl,⟨s,rfl,hs⟩,_,_,rfl,⟨v,xs,rfl,hv,hx⟩,h3⟩:=h
 obtain rfl:_=[]:=h3
 obtain ⟨a,ha,rfl⟩:=u8_rd h1
 obtain ⟨k,hk,rfl⟩:=u16_rd h2
 obtain ⟨ps,rfl,hp⟩:=Rd.all (Q:=PcOk) (f:=pcC) (fun cs h=>pc_rd h) hx
 exact ⟨a,k,s,v,ps,ha,hk,hs,hv,hp,rfl⟩
set_option maxHeartbeats 25600000
theorem ix34_0 (w:World) (c0 m0 c1 m1 c2 m2 c3 m3:Int) (i0 i1 i2 i3:ByteArray) (p0 p1 p2 p3:Option Addr) (n0 n1 n2 n3 k0 k1 k2 k3:Nat):(Instr.index 34 (.agg #[.int .i64 c0,.int .i64 m0,.string i0,.slice p0 n0 k0,.int .i64 c1,.int .i64 m1,.string i1,.slice p1 n1 k1,.int .i64 c2,.int .i64 m2,.string i2,.slice p2 n2 k2,.int .i64 c3,.int .i64 m3,.string i3,.slice p3 n3 k3]) (.int .i64 0)).run Tryz.prog w = .ok (.agg #[.int .i64 c0,.int .i64 m0,.string i0,.slice p0 n0 k0]) w:=by kernel_rfl
theorem ix34_1 (w:World) (c0 m0 c1 m1 c2 m2 c3 m3:Int) (i0 i1 i2 i3:ByteArray) (p0 p1 p2 p3:Option Addr) (n0 n1 n2 n3 k0 k1 k2 k3:Nat):(Instr.index 34 (.agg #[.int .i64 c0,.int .i64 m0,.string i0,.slice p0 n0 k0,.int .i64 c1,.int .i64 m1,.string i1,.slice p1 n1 k1,.int .i64 c2,.int .i64 m2,.string i2,.slice p2 n2 k2,.int .i64 c3,.int .i64 m3,.string i3,.slice p3 n3 k3]) (.int .i64 1)).run Tryz.prog w = .ok (.agg #[.int .i64 c1,.int .i64 m1,.string i1,.slice p1 n1 k1]) w:=by kernel_rfl
theorem ix34_2 (w:World) (c0 m0 c1 m1 c2 m2 c3 m3:Int) (i0 i1 i2 i3:ByteArray) (p0 p1 p2 p3:Option Addr) (n0 n1 n2 n3 k0 k1 k2 k3:Nat):(Instr.index 34 (.agg #[.int .i64 c0,.int .i64 m0,.string i0,.slice p0 n0 k0,.int .i64 c1,.int .i64 m1,.string i1,.slice p1 n1 k1,.int .i64 c2,.int .i64 m2,.string i2,.slice p2 n2 k2,.int .i64 c3,.int .i64 m3,.string i3,.slice p3 n3 k3]) (.int .i64 2)).run Tryz.prog w = .ok (.agg #[.int .i64 c2,.int .i64 m2,.string i2,.slice p2 n2 k2]) w:=by kernel_rfl
theorem ix34_3 (w:World) (c0 m0 c1 m1 c2 m2 c3 m3:Int) (i0 i1 i2 i3:ByteArray) (p0 p1 p2 p3:Option Addr) (n0 n1 n2 n3 k0 k1 k2 k3:Nat):(Instr.index 34 (.agg #[.int .i64 c0,.int .i64 m0,.string i0,.slice p0 n0 k0,.int .i64 c1,.int .i64 m1,.string i1,.slice p1 n1 k1,.int .i64 c2,.int .i64 m2,.string i2,.slice p2 n2 k2,.int .i64 c3,.int .i64 m3,.string i3,.slice p3 n3 k3]) (.int .i64 3)).run Tryz.prog w = .ok (.agg #[.int .i64 c3,.int .i64 m3,.string i3,.slice p3 n3 k3]) w:=by kernel_rfl
structure MsOk (id:ByteArray) (al:List At2):Prop where
 id:id.size≤maxLen
 len:al.length≤100
 each:∀ a∈al,AtOk a
/-- attributes that are only read, as a thing in memory -/
def saitem (p:Option Addr) (al:List At2) (cp:Nat):It:=⟨if al.isEmpty then none else p.map (·.block),fun w=>SA w (.slice p al.length cp) al⟩
theorem saitem_ok (p:Option Addr) (al:List At2) (cp:Nat):(saitem p al cp).Ok:=fun w w' _ hb h=>by
 rcases h with h | h | ⟨g,off,c,hv,h1,h2,h3⟩
 ·exact .inl h
 ·exact .inr (.inl h)
 ·refine .inr (.inr ⟨g,off,c,hv,h1,h2,fun j x hj=>⟨(h3 j x hj).1,fun i y hy=>?_⟩⟩)
  have hne:al.isEmpty=false:=by
   cases al with
   | nil=>simp at hj
   | cons _ _=>rfl
  simp only [Value.slice.injEq] at hv
  obtain ⟨rfl,-,-⟩:=hv
  have hs:=hb g (by unfold saitem; rw [hne]; rfl)
  have h0:=(h3 j x hj).2 i y hy
  unfold World.cell? at h0 ⊢
  rw [hs]; exact h0
theorem pushS {M:List Nat} {w0 w w':World} {H:List It} (hp:HpM M w0 w H) (hx:Ext w w') {p:Option Addr} {al:List At2} {cp:Nat} (hs:SA w' (.slice p al.length cp) al) (hf:∀ g off,p=some ⟨g,off,none⟩→w.heap.size≤g):HpM M w0 w' (saitem p al cp :: H):=by
 refine hp.push hx (saitem_ok p al cp) hs fun b hb=>?_
 unfold saitem at hb
 cases al with
 | nil=>cases hb
 | cons a l =>
  rcases hs with ⟨_,h⟩ | ⟨_,_,_,h⟩ | ⟨g,off,c,hv,h1,h2,h3⟩
  ·simp at h
  ·simp at h
  ·simp only [Value.slice.injEq] at hv
   obtain ⟨rfl,-,-⟩:=hv
   have e:g=b:=by simpa using hb
   subst e
   exact ⟨hf g off rfl,cell_lt ((h3 0 (atC a) rfl).2 0 _ rfl)⟩
/-- an array of four messages: what each index gives -/
def Four8 (w:World) (A:Value):Prop:=(∃ cs,A = .agg cs)∧∀ k:Nat,k < 4→∃ (c m:Int) (id:ByteArray) (al:List At2) (p:Option Addr) (cp:Nat),MsOk id al∧SA w (.slice p al.length cp) al∧(k=1→∃ c' m':Nat,c=c'∧m=m'∧DrOk c' m' id al)∧∀ w2,(Instr.index 34 A (.int .i64 k)).run Tryz.prog w2 = .ok (.agg #[.int .i64 c,.int .i64 m,.string id,.slice p al.length cp]) w2
theorem Four8.ext {w w':World} {A:Value} (h:Four8 w A) (hx:Ext w w'):Four8 w' A:=⟨h.1,fun k hk =>
 let ⟨c,m,id,al,p,cp,h1,h2,h3,h4⟩:=h.2 k hk
 ⟨c,m,id,al,p,cp,h1,h2.ext hx,h3,h4⟩⟩
theorem DrOk.ms {c m:Nat} {id:ByteArray} {al:List At2} (h:DrOk c m id al):MsOk id al:=by
 have h1:=h.id
 have h2:=h.len
 refine ⟨by unfold maxLen; omega,by omega,fun a ha=>?_⟩
 have:=h.each a ha
 exact ⟨⟨by omega,by omega⟩,by unfold maxLen; omega⟩
/-- an array of four messages, cell by cell -/
def Cells16 (w:World) (A:Value):Prop:=∃ (c0 m0 c1 m1 c2 m2 c3 m3:Int) (i0 i1 i2 i3:ByteArray) (l0 l1 l2 l3:List At2) (p0 p1 p2 p3:Option Addr) (k0 k1 k2 k3:Nat),
 A = .agg #[.int .i64 c0,.int .i64 m0,.string i0,.slice p0 l0.length k0,.int .i64 c1,.int .i64 m1,.string i1,.slice p1 l1.length k1,.int .i64 c2,.int .i64 m2,.string i2,.slice p2 l2.length k2,.int .i64 c3,.int .i64 m3,.string i3,.slice p3 l3.length k3] ∧
 (MsOk i0 l0∧SA w (.slice p0 l0.length k0) l0)∧(MsOk i1 l1∧SA w (.slice p1 l1.length k1) l1)∧(MsOk i2 l2∧SA w (.slice p2 l2.length k2) l2)∧(MsOk i3 l3∧SA w (.slice p3 l3.length k3) l3)∧∃ c' m':Nat,c1=c'∧m1=m'∧DrOk c' m' i1 l1
theorem Cells16.four {w:World} {A:Value} (h:Cells16 w A):Four8 w A:=by
 obtain ⟨c0,m0,c1,m1,c2,m2,c3,m3,i0,i1,i2,i3,l0,l1,l2,l3,p0,p1,p2,p3,k0,k1,k2,k3,rfl,h0,h1,h2,h3,hd⟩:=h
 refine ⟨⟨_,rfl⟩,fun k hk=>?_⟩
 have hk4:k=0∨k=1∨k=2∨k=3:=by omega
 rcases hk4 with rfl | rfl | rfl | rfl
 ·exact ⟨c0,m0,i0,l0,p0,k0,h0.1,h0.2,(fun h=>by cases h),fun w2=>ix34_0 w2 _ _ _ _ _ _ _ _ _ _ _ _ _ _ _ _ _ _ _ _ _ _ _ _⟩
 ·exact ⟨c1,m1,i1,l1,p1,k1,h1.1,h1.2,(fun _=>hd),fun w2=>ix34_1 w2 _ _ _ _ _ _ _ _ _ _ _ _ _ _ _ _ _ _ _ _ _ _ _ _⟩
 ·exact ⟨c2,m2,i2,l2,p2,k2,h2.1,h2.2,(fun h=>by cases h),fun w2=>ix34_2 w2 _ _ _ _ _ _ _ _ _ _ _ _ _ _ _ _ _ _ _ _ _ _ _ _⟩
 ·exact ⟨c3,m3,i3,l3,p3,k3,h3.1,h3.2,(fun h=>by cases h),fun w2=>ix34_3 w2 _ _ _ _ _ _ _ _ _ _ _ _ _ _ _ _ _ _ _ _ _ _ _ _⟩
theorem messages16_c {W:World} {v0 v1:Value} {rl:List At2} {ps:List Pc3} (rc rm:Int) (rid:ByteArray) (hv0:SA W v0 rl) (hrid:rid.size≤maxLen) (hrl:∀ a∈rl,AtOk a)
  (c8 m16:Nat) (id0:ByteArray) (hv:SPc W v1 ps) (hps:∀ p∈ps,PcOk p) (hc8:c8 < 256) (hm16:m16 < 65536) (hid:id0.size≤maxLen)
  (wh at_:Nat) (N:Int) (S:ByteArray) (hwh:wh < 256) (hat:at_ < 256) (hN:in8 N) (hS:S.size≤maxLen) (wh2 at2:Nat) (N2:Int) (S2:ByteArray) (hwh2:wh2 < 256) (hat2:at2 < 256) (hN2:in8 N2) (hS2:S2.size≤maxLen) :
  Calls Tryz.prog 13 #[.agg #[.int .i64 rc,.int .i64 rm,.string rid,v0],.agg #[.int .u8 c8,.int .u16 m16,.string id0,v1],.agg #[.int .u8 wh,.int .u8 at_,.int .i64 N,.string S],.agg #[.int .u8 wh2,.int .u8 at2,.int .i64 N2,.string S2]] W fun e w'=>∃ A,e = .returned A∧Cells16 w' A∧Ext W w':=by
 have s1:=fun {w:World} (hx:Ext W w)=>message_c (W:=w) c8 m16 id0 (SLn.ext hv hx) hps hc8 hm16 hid
 have s2:=fun {w:World} (hx:Ext W w)=>cut_c (W:=w) rc rm rid (hv0.ext hx) hrid hrl
 have b1:=fun {w:World} {v:Value} {al:List At2} c m id h1 h2 h3 h4=>bend_c (W:=w) (v:=v) (al:=al) wh at_ N S c m id hwh hat hN hS h1 h2 h3 h4
 have b2:=fun {w:World} {v:Value} {al:List At2} c m id h1 h2 h3 h4=>bend_c (W:=w) (v:=v) (al:=al) wh2 at2 N2 S2 c m id hwh2 hat2 hN2 hS2 h1 h2 h3 h4
 have hcl:(cutL rl).length≤32:=by unfold cutL; rw [List.length_map,List.length_take]; omega
 have hce:∀ a∈cutL rl,AtOk a:=by
  intro a ha
  unfold cutL at ha
  obtain ⟨b,hb,rfl⟩:=List.mem_map.1 ha
  have hbo:=hrl b (List.mem_of_mem_take hb)
  have:=hbo.2
  refine ⟨hbo.1,?_⟩
  show (b.2.extract 0 (min b.2.size 800)).size≤maxLen
  rw [ByteArray.size_extract]; omega
 generalize cutL rl=cl at *
 have hri:(rid.extract 0 (min rid.size 20)).size≤maxLen:=by rw [ByteArray.size_extract]; omega
 generalize rid.extract 0 (min rid.size 20)=ri at *
 obtain ⟨p0,cp0,rfl⟩:=hv0.shape
 obtain ⟨p1,cp1,rfl⟩:=SPc.shape hv
 refine v_fn (args:=[.agg #[.int .i64 rc,.int .i64 rm,.string rid,.slice p0 rl.length cp0],.agg #[.int .u8 c8,.int .u16 m16,.string id0,.slice p1 ps.length cp1],.agg #[.int .u8 wh,.int .u8 at_,.int .i64 N,.string S],.agg #[.int .u8 wh2,.int .u8 at2,.int .i64 N2,.string S2]]) TTok FFok Tryz.func13 rfl (Nat.le_of_ble_eq_true rfl) ?_
 conv=>whnf
 refine VSeq.mk fun Kq hKq=>?_
 conv=>whnf
 have hp:=Hp.nil W
 refine hp.kboxA fun q4 w hp hx=>?_
 conv=>whnf
 refine hp.kboxA fun q5 w hp hx=>?_
 conv=>whnf
 refine hp.kboxA fun q6 w hp hx=>?_
 conv=>whnf
 refine hp.kboxA fun q7 w hp hx=>?_
 conv=>whnf
 refine hp.kalloc z34 fun b8 w hp hx=>?_
 conv=>whnf
 refine hKq _ _ _ (.refl _) ?_
 clear hKq Kq
 conv=>whnf
 refine VSeq.mk fun Kq hKq=>?_
 conv=>whnf
 (refine ⟨_,_,Blk.ldV (vs:=[_,_,_,_]) (hp.get (i:=3) rfl) TTok rfl rfl rfl,?_⟩; conv=>whnf)
 refine Calls.mono (s1 hp.ext) ?_
 clear s1
 rintro _ w ⟨_,rfl,c,m,id,al,u,rfl,dA,hr⟩
 refine ⟨_,rfl,?_⟩
 have hp:=hp.join hr
 clear hr
 simp only [List.cons_append,List.nil_append] at hp
 obtain ⟨pu,cu,rfl⟩:=row_shape (hp.get (i:=0) rfl)
 conv=>whnf
 (refine hp.kalloc z24 fun al24 w hp hx=>?_; conv=>whnf)
 (refine hp.kstA TTok rfl 0 rfl rfl (oneC_of rfl) (by rfl) fun w hp=>?_; try simp only [List.set_cons_zero,List.set_cons_succ,EV.val] at hp; conv=>whnf)
 (refine hKq _ _ _ (.refl _) ?_; clear hKq Kq; conv=>whnf)
 (refine VSeq.mk fun Kq hKq=>?_; conv=>whnf)
 obtain ⟨b9,rfl⟩:∃ q,q=al24:=⟨al24,rfl⟩
 refine v_mix TTok FFok mixed 12 [(0,false),(2,false),(3,false),(4,false),(6,false),(7,false),(8,false),(1,true),(5,true),(9,true),(10,true),(11,false)] (by kernel_rfl) ?_
 conv=>whnf
 (refine ⟨_,fun w' hx'=>Blk.ldV (vs:=[_,_,_,_]) (Blk.ext (hp.get (i:=6) rfl) hx') TTok rfl rfl rfl,?_⟩; conv=>whnf)
 (refine ⟨_,fun w' hx'=>Blk.ldV (vs:=[_,_,_,_]) (Blk.ext (hp.get (i:=0) rfl) hx') TTok rfl rfl rfl,?_⟩; conv=>whnf)
 (refine ⟨_,fun w' hx'=>Blk.ldV (vs:=[_,_,_,_]) (Blk.ext (hp.get (i:=4) rfl) hx') TTok rfl rfl rfl,?_⟩; conv=>whnf)
 (refine ⟨_,fun w' hx'=>Blk.ldV (vs:=[_,_,_,_]) (Blk.ext (hp.get (i:=0) rfl) hx') TTok rfl rfl rfl,?_⟩; conv=>whnf)
 (refine ⟨_,fun w' hx'=>Blk.ldV (vs:=[_,_,_,_]) (Blk.ext (hp.get (i:=3) rfl) hx') TTok rfl rfl rfl,?_⟩; conv=>whnf)
 (refine ⟨_,fun w' hx'=>Blk.ldV (vs:=[_,_,_,_]) (Blk.ext (hp.get (i:=4) rfl) hx') TTok rfl rfl rfl,?_⟩; conv=>whnf)
 (refine ⟨_,fun w' hx'=>Blk.ldV (vs:=[_,_,_,_]) (Blk.ext (hp.get (i:=0) rfl) hx') TTok rfl rfl rfl,?_⟩; conv=>whnf)
 (intro w hx; try (have hp:=hp.call hx); conv=>whnf)
 refine Calls.mono (s2 hp.ext) ?_
 clear s2
 rintro _ w ⟨_,rfl,u2,rfl,hr⟩
 refine ⟨_,rfl,?_⟩
 have hx:=hr.ext
 have hp:=hp.join hr
 clear hr
 simp only [List.cons_append,List.nil_append] at hp
 obtain ⟨pr,kr,rfl⟩:=row_shape (hp.get (i:=0) rfl)
 conv=>whnf
 refine And.intro hx ?_
 conv=>whnf
 (intro w hx; try (have hp:=hp.call hx); conv=>whnf)
 have hAi:id.size≤maxLen:=dA.ms.id
 have hAe:=dA.ms.each
 have hAl:=dA.len
 refine Calls.mono (b1 c m id hAi (SA.of_row (hp.get (i:=2) rfl)) hAe (by omega)) ?_
 rintro _ w ⟨_,rfl,c2,m2,i2,l2,p2,k2,rfl,o2,sa,hx,hf⟩
 refine ⟨_,rfl,?_⟩
 have hp:=pushS hp hx sa hf
 clear sa hf
 conv=>whnf
 refine And.intro hx ?_
 conv=>whnf
 (intro w hx; try (have hp:=hp.call hx); conv=>whnf)
 refine Calls.mono (b1 c m id hAi (SA.of_row (hp.get (i:=3) rfl)) hAe (by omega)) ?_
 rintro _ w ⟨_,rfl,c3,m3,i3,l3,p3,k3,rfl,o3,sa,hx,hf⟩
 refine ⟨_,rfl,?_⟩
 have hp:=pushS hp hx sa hf
 clear sa hf
 conv=>whnf
 refine And.intro hx ?_
 conv=>whnf
 have o2l:=o2.len
 have o3l:=o3.len
 (intro w hx; try (have hp:=hp.call hx); conv=>whnf)
 refine Calls.mono (b2 c3 m3 i3 o3.id (hp.get (i:=0) rfl) o3.each (by omega)) ?_
 rintro _ w ⟨_,rfl,c4,m4,i4,l4,p4,k4,rfl,o4,sa,hx,hf⟩
 refine ⟨_,rfl,?_⟩
 have hp:=pushS hp hx sa hf
 clear sa hf
 have o4l:=o4.len
 conv=>whnf
 refine And.intro hx ?_
 conv=>whnf
 (refine ⟨_,fun w' hx'=>bld34_0_1_2_3 w' _ _ _ _ _ _ _ _ _ _ _ _ _ _ _ _,?_⟩; conv=>whnf)
 (intro w hx; try (have hp:=hp.call hx); conv=>whnf)
 (refine hp.kstA TTok rfl 6 rfl rfl (oneC_of rfl) (by rfl) fun w hp=>?_; try simp only [List.set_cons_zero,List.set_cons_succ,EV.val] at hp; conv=>whnf)
 (refine hKq _ _ _ (.refl _) ?_; clear hKq Kq; conv=>whnf)
 (refine ⟨_,Blk.lvN (hp.get (i:=6) rfl) TTok rfl rfl,?_⟩; conv=>whnf)
 exact ⟨⟨rc,rm,c,m,c2,m2,c4,m4,ri,id,i2,i4,cl,al,l2,l4,pr,pu,p2,p4,kr,cu,k2,k4,rfl,⟨⟨hri,by omega,hce⟩,SA.of_row (hp.get (i:=3) rfl)⟩,⟨dA.ms,SA.of_row (hp.get (i:=5) rfl)⟩,⟨⟨o2.id,by omega,o2.each⟩,hp.get (i:=2) rfl⟩,⟨⟨o4.id,by omega,o4.each⟩,hp.get (i:=0) rfl⟩,c,m,rfl,rfl,dA⟩,hp.ext⟩
set_option maxHeartbeats 51200000
theorem at_rd {w:World} {cs:List Value} (h:Rd w (.ag sh8A) cs):∃ a:At2,AtOk a∧cs=atC a:=by
 obtain ⟨_,_,rfl,⟨k,rfl,hk⟩,_,_,rfl,⟨s,rfl,hs⟩,h3⟩:=h
 obtain rfl:_=[]:=h3
 exact ⟨(k,s),⟨wf_in8 hk,hs⟩,rfl⟩
def sh8R:Sh:=.cons (.int .i64) (.cons (.int .i64) (.cons .str (.cons (.sl (.ag sh8A)) .nil)))
theorem raw_rd {w:World} {cs:List Value} (h:Rd w sh8R cs):∃ (c m:Int) (id:ByteArray) (v:Value) (al:List At2),id.size≤maxLen∧SA w v al∧(∀ a∈al,AtOk a)∧cs=[.int .i64 c,.int .i64 m,.string id,v]:=by
 obtain ⟨_,_,rfl,⟨c,rfl,hc⟩,_,_,rfl,⟨m,rfl,hm⟩,_,_,rfl,⟨s,rfl,hs⟩,_,_,rfl,⟨v,xs,rfl,hv,hx⟩,h3⟩:=h
 obtain rfl:_=[]:=h3
 obtain ⟨al,rfl,ha⟩:=Rd.all (Q:=AtOk) (f:=atC) (fun cs h=>at_rd h) hx
 exact ⟨c,m,s,v,al,hs,hv,ha,rfl⟩
def sh8B:Sh:=.cons (.int .u8) (.cons (.int .u8) (.cons (.int .i64) (.cons .str .nil)))
theorem bend_rd {w:World} {cs:List Value} (h:Rd w sh8B cs):∃ (wh a:Nat) (N:Int) (S:ByteArray),wh < 256∧a < 256∧in8 N∧S.size≤maxLen∧cs=[.int .u8 wh,.int .u8 a,.int .i64 N,.string S]:=by
 obtain ⟨_,_,rfl,h1,_,_,rfl,h2,_,_,rfl,⟨N,rfl,hN⟩,_,_,rfl,⟨S,rfl,hS⟩,h3⟩:=h
 obtain rfl:_=[]:=h3
 obtain ⟨wh,k1,rfl⟩:=u8_rd h1
 obtain ⟨a,k2,rfl⟩:=u8_rd h2
 exact ⟨wh,a,N,S,k1,k2,wf_in8 hN,hS,rfl⟩
set_option maxHeartbeats 4000000
/-- the answer's number of Protect -/
def proC (c m:Int) (id key:ByteArray) (al:List At2):Nat :=
 if stunB c m id al=true then
  if 4096 < key.size then 3 else if hasB 8 al=true∨hasB 32808 al=true then 2 else
  if stunB c m id (al++[(8,macB key (wrB c.toNat m.toNat id al 36))])=true then 0 else 3
 else 80
def proL (c m:Int) (id key:ByteArray) (al:List At2):List At2:=al++[(8,macB key (wrB c.toNat m.toNat id al 36))]
/-- the answer's number of Mark -/
def mrkC (c m:Int) (id:ByteArray) (al:List At2):Nat :=
 if stunB c m id al=true then
  if hasB 32808 al=true then 2 else
  if stunB c m id (al++[(32808,fpB (wrB c.toNat m.toNat id al 8))])=true then 0 else 3
 else 80
def mrkL (c m:Int) (id:ByteArray) (al:List At2):List At2:=al++[(32808,fpB (wrB c.toNat m.toNat id al 8))]
theorem proC_ok {c m:Int} {id key:ByteArray} {al:List At2} (h:proC c m id key al=0):stunB c m id al=true∧stunB c m id (proL c m id key al)=true:=by
 unfold proC at h
 split at h
 ·rename_i h1
  split at h
  ·cases h
  ·split at h
   ·cases h
   ·split at h
    ·rename_i h4
     exact ⟨h1,h4⟩
    ·cases h
 ·cases h
theorem mrkC_ok {c m:Int} {id:ByteArray} {al:List At2} (h:mrkC c m id al=0):stunB c m id al=true∧stunB c m id (mrkL c m id al)=true:=by
 unfold mrkC at h
 split at h
 ·rename_i h1
  split at h
  ·cases h
  ·split at h
   ·rename_i h4
    exact ⟨h1,h4⟩
   ·cases h
 ·cases h
/-- what is returned: the message with more, or an error -/
def Msg8 (W:World) (c m:Int) (id:ByteArray) (C:Nat) (L:List At2) (e:Ending) (w':World):Prop :=
 (C=0∧∃ v,e = .returned (.tuple #[.agg #[.int .i64 c,.int .i64 m,.string id,v],.int .i64 0])∧HpM [] W w' [row 54 2 v L.length (flatC L)]) ∨
 (C≠0∧e = .returned (.tuple #[zStun,.int .i64 C])∧Ext W w')
theorem Protect_c {W:World} {v:Value} {al:List At2} (c m:Int) (id key:ByteArray) (hv:SA W v al) :
  Calls Tryz.prog 39 #[.agg #[.int .i64 c,.int .i64 m,.string id,v],.string key] W fun e w'=>Msg8 W c m id (proC c m id key al) (proL c m id key al) e w':=by
 unfold Msg8
 by_cases hb:stunB c m id al=true
 ·obtain ⟨C,rfl⟩:=Int.eq_ofNat_of_zero_le (stunB_t hb).1
  obtain ⟨M,rfl⟩:=Int.eq_ofNat_of_zero_le (stunB_t hb).2.2.1
  by_cases hk:4096 < key.size
  ·have e1:proC C M id key al=3:=by unfold proC; rw [if_pos hb,if_pos hk]
   refine (Protect_long C M id key hv hb hk).mono fun e w' h=>.inr ⟨by omega,?_⟩
   rw [e1]; exact h
  ·by_cases hh:hasB 8 al=true∨hasB 32808 al=true
   ·have e1:proC C M id key al=2:=by unfold proC; rw [if_pos hb,if_neg hk,if_pos hh]
    refine (Protect_has C M id key hv hb (by omega) hh).mono fun e w' h=>.inr ⟨by omega,?_⟩
    rw [e1]; exact h
   ·have h8:hasB 8 al=false:=by cases h:hasB 8 al <;> simp_all
    have h9:hasB 32808 al=false:=by cases h:hasB 32808 al <;> simp_all
    by_cases h2:stunB C M id (al++[(8,macB key (wrB C M id al 36))])=true
    ·have e1:proC C M id key al=0:=by unfold proC; rw [if_pos hb,if_neg hk,if_neg hh,Int.toNat_natCast,Int.toNat_natCast,if_pos h2]
     refine (Protect_ok C M id key hv hb (by omega) h8 h9 h2).mono fun e w' h=>.inl ⟨e1,?_⟩
     obtain ⟨u,rfl,v',rfl,hp⟩:=h
     exact ⟨v',rfl,hp⟩
    ·have e1:proC C M id key al=3:=by unfold proC; rw [if_pos hb,if_neg hk,if_neg hh,Int.toNat_natCast,Int.toNat_natCast,if_neg h2]
     refine (Protect_full C M id key hv hb (by omega) h8 h9 (by simpa using h2)).mono fun e w' h=>.inr ⟨by omega,?_⟩
     obtain ⟨u,rfl,rfl,hx⟩:=h
     rw [e1]; exact ⟨rfl,hx⟩
 ·have e1:proC c m id key al=80:=by unfold proC; rw [if_neg hb]
  refine (Protect_stun c m id key hv (by simpa using hb)).mono fun e w' h=>.inr ⟨by omega,?_⟩
  rw [e1]; exact h
theorem Mark_c {W:World} {v:Value} {al:List At2} (c m:Int) (id:ByteArray) (hv:SA W v al) :
  Calls Tryz.prog 40 #[.agg #[.int .i64 c,.int .i64 m,.string id,v]] W fun e w'=>Msg8 W c m id (mrkC c m id al) (mrkL c m id al) e w':=by
 unfold Msg8
 by_cases hb:stunB c m id al=true
 ·obtain ⟨C,rfl⟩:=Int.eq_ofNat_of_zero_le (stunB_t hb).1
  obtain ⟨M,rfl⟩:=Int.eq_ofNat_of_zero_le (stunB_t hb).2.2.1
  by_cases hh:hasB 32808 al=true
  ·have e1:mrkC C M id al=2:=by unfold mrkC; rw [if_pos hb,if_pos hh]
   refine (Mark_has C M id hv hb hh).mono fun e w' h=>.inr ⟨by omega,?_⟩
   rw [e1]; exact h
  ·have h9:hasB 32808 al=false:=by cases h:hasB 32808 al <;> simp_all
   by_cases h2:stunB C M id (al++[(32808,fpB (wrB C M id al 8))])=true
   ·have e1:mrkC C M id al=0:=by unfold mrkC; rw [if_pos hb,if_neg hh,Int.toNat_natCast,Int.toNat_natCast,if_pos h2]
    refine (Mark_ok C M id hv hb h9 h2).mono fun e w' h=>.inl ⟨e1,?_⟩
    obtain ⟨u,rfl,v',rfl,hp⟩:=h
    exact ⟨v',rfl,hp⟩
   ·have e1:mrkC C M id al=3:=by unfold mrkC; rw [if_pos hb,if_neg hh,Int.toNat_natCast,Int.toNat_natCast,if_neg h2]
    refine (Mark_full C M id hv hb h9 (by simpa using h2)).mono fun e w' h=>.inr ⟨by omega,?_⟩
    obtain ⟨u,rfl,rfl,hx⟩:=h
    rw [e1]; exact ⟨rfl,hx⟩
 ·have e1:mrkC c m id al=80:=by unfold mrkC; rw [if_neg hb]
  refine (Mark_stun c m id hv (by simpa using hb)).mono fun e w' h=>.inr ⟨by omega,?_⟩
  rw [e1]; exact h
def wb (f:Nat→Bool):List Value:=(List.range 32).map fun i=>Value.bool (f i)
theorem wb_len (f:Nat→Bool):(wb f).length=32:=by simp [wb]
theorem wb_get (f:Nat→Bool) (i:Nat) (h:i < 32):(wb f)[i]? = some (.bool (f i)):=by
 unfold wb; rw [List.getElem?_map,List.getElem?_range h]; rfl
theorem wb_congr {f g:Nat→Bool} (h:∀ i,i < 32→f i=g i):wb f=wb g:=by
 unfold wb
 refine List.map_congr_left fun i hi=>?_
 rw [h i (List.mem_range.1 hi)]
theorem wb_set (f:Nat→Bool) (i:Nat) (b:Bool):(wb f).set i (.bool b)=wb fun j=>if j=i then b else f j:=by
 apply List.ext_getElem?
 intro j
 rcases Nat.lt_or_ge j 32 with h | h
 ·rw [wb_get _ j h,List.getElem?_set,wb_len,wb_get f j h]
  by_cases e:i=j
  ·subst e; rw [if_pos rfl,if_pos h,if_pos rfl]
  ·rw [if_neg e,if_neg (fun x=>e x.symm)]
 ·rw [List.getElem?_eq_none (by rw [List.length_set,wb_len]; omega),List.getElem?_eq_none (by rw [wb_len]; omega)]
theorem wb_one (f:Nat→Bool):∀ u∈wb f,u.oneCell'=true:=by
 intro u hu
 obtain ⟨i,_,rfl⟩:=List.mem_map.1 hu
 rfl
/-- the words of numbers -/
def wd (n:Nat):List Value:=wb fun i=>n.testBit (31 - i)
def wV (n:Nat):Value:=.agg (wd n).toArray
theorem wd_len (n:Nat):(wd n).length=32:=wb_len _
theorem wd_one (n:Nat):∀ u∈wd n,u.oneCell'=true:=wb_one _
theorem wd_get (n i:Nat) (h:i < 32):(wd n)[i]? = some (.bool (n.testBit (31 - i))):=wb_get _ i h
/-- what a list of bits is filled with, from the right and from the left -/
def upR (F:Nat→Bool) (j:Nat):Nat→Bool:=fun i=>if 32≤i+j then F i else false
def upL (F:Nat→Bool) (j:Nat):Nat→Bool:=fun i=>if i < j then F i else false
theorem upR_zero (F:Nat→Bool):wb (upR F 0)=wb fun _=>false:=wb_congr fun i h=>if_neg (by omega)
theorem upR_all (F:Nat→Bool):wb (upR F 32)=wb F:=wb_congr fun i h=>if_pos (by omega)
theorem upL_zero (F:Nat→Bool):wb (upL F 0)=wb fun _=>false:=wb_congr fun i h=>if_neg (by omega)
theorem upL_all (F:Nat→Bool):wb (upL F 32)=wb F:=wb_congr fun i h=>if_pos h
theorem upR_set (F:Nat→Bool) (j:Nat) (b:Bool) (h:j < 32) (hb:b=F (31 - j)):(wb (upR F j)).set (31 - j) (.bool b)=wb (upR F (j+1)):=by
 rw [wb_set]
 refine wb_congr fun i hi=>?_
 unfold upR
 by_cases e:i=31 - j
 ·subst e; rw [if_pos rfl,if_pos (by omega),hb]
 ·rw [if_neg e]
  by_cases e2:32≤i+j
  ·rw [if_pos e2,if_pos (by omega)]
  ·rw [if_neg e2,if_neg (by omega)]
theorem upL_set (F:Nat→Bool) (j:Nat) (b:Bool) (hb:b=F j):(wb (upL F j)).set j (.bool b)=wb (upL F (j+1)):=by
 rw [wb_set]
 refine wb_congr fun i hi=>?_
 unfold upL
 by_cases e:i=j
 ·subst e; rw [if_pos rfl,if_pos (by omega),hb]
 ·rw [if_neg e]
  by_cases e2:i < j
  ·rw [if_pos e2,if_pos (by omega)]
  ·rw [if_neg e2,if_neg (by omega)]
set_option maxHeartbeats 1600000 in
theorem word_p (n:Nat) (hn:n < M32):PureF Tryz.prog 193 #[.int .i64 n] (wV n):=by
 unfold wV
 have hn:n < 4294967296:=hn
 first | refine v_pure TTok FFok Tryz.func193 rfl rfl fun w0=>?_ | refine v_pure (args:=[]) TTok FFok Tryz.func193 rfl rfl fun w0=>?_
 conv=>whnf
 refine VSeq.mk fun Kq hKq=>?_
 conv=>whnf
 have hp:=Hp.nil w0
 refine hp.kalloc z273 fun q1 w hp hx=>?_
 conv=>whnf
 refine hKq _ _ _ (.refl _) ?_
 clear hKq Kq
 conv=>whnf
 refine VSeq.mk fun Kq hKq=>?_
 conv=>whnf
 refine hp.kalloc z273 fun q2 w hp hx=>?_
 conv=>whnf
 refine hKq _ _ _ (.refl _) ?_
 clear hKq Kq
 conv=>whnf
 refine VSeq.mk fun Kq hKq=>?_
 conv=>whnf
 refine VSeq.mk fun Kq hKq=>?_
 conv=>whnf
 refine hKq _ _ _ (.refl _) ?_
 clear hKq Kq
 conv=>whnf
 have hp:HpM [] w0 w [blk q2 (wb (upR (fun i=>n.testBit (31 - i)) 0)) 273,blk q1 (wb fun _=>false) 273]:=by rw [upR_zero]; exact hp
 refine ⟨fun mm e w'=>∃ (j m:Nat),mm+j=32∧m=n / 2 ^ j∧e=[(0,.v (.int .i64 m)),(2,.v (.pointer (some ⟨q1,0,none⟩))),(3,.v (.pointer (some ⟨q2,0,none⟩))),(4,.v (.int .i64 (31 - (j:Int))))]∧HpM [] w0 w' [blk q2 (wb (upR (fun i=>n.testBit (31 - i)) j)) 273,blk q1 (wb fun _=>false) 273],
   ⟨32,_,⟨0,n,by omega,by rw [Nat.pow_zero,Nat.div_one],rfl,hp⟩,sub_cons rfl (sub_cons rfl (sub_cons rfl (sub_cons rfl sub_nil)))⟩,?_⟩
 clear hp hx
 repeat clear hp
 rintro mm _ w ⟨j,m,hmm,hm,rfl,hp⟩
 have hle:n / 2 ^ j≤n:=Nat.div_le_self _ _
 rw [← hm] at hle
 have hbit:decide (m % 2=1)=n.testBit (31 - (31 - j))∨32≤j:=by
  rcases Nat.lt_or_ge j 32 with h | h
  ·left; rw [show 31 - (31 - j)=j by omega,Nat.testBit_eq_decide_div_mod_eq,hm]
  ·exact .inr h
 conv=>whnf
 refine VSeq.mk fun Kq hKq=>?_
 conv=>whnf
 refine VSeq.mk fun Kq hKq=>?_
 conv=>whnf
 refine hKq _ _ _ (.refl _) ?_
 clear hKq Kq
 conv=>whnf
 refine ⟨fun hlt=>?_,fun hlt=>?_⟩
 ·have hlt:=of_decide_eq_true hlt
  conv=>whnf
  refine hKq _ _ _ (.refl _) ?_
  clear hKq Kq
  conv=>whnf
  refine VSeq.mk fun Kq hKq=>?_
  conv=>whnf
  refine VSeq.mk fun Kq hKq=>?_
  conv=>whnf
  refine And.intro (by omega) ?_
  conv=>whnf
  have hb:=hbit.resolve_right (by omega)
  have hs:=upR_set (fun i=>n.testBit (31 - i)) j (decide (m % 2=1)) (by omega) hb
  have hd:decide (((m:Nat):Int) % 2=1)=decide (m % 2=1):=by
   rw [decide_eq_decide]; omega
  rw [hd]
  refine ⟨31 - j,⟨by first | rfl | omega,by omega⟩,?_⟩
  conv=>whnf
  refine hp.kst1 (off:=31 - j) TTok (by rfl) 0 (by rfl) (by rfl) (by rfl) (by rw [wb_len]; omega) fun w hp=>?_
  try simp only [List.set_cons_zero,List.set_cons_succ,EV.val] at hp
  conv=>whnf
  refine hKq _ _ _ (.refl _) ?_
  clear hKq Kq
  conv=>whnf
  refine And.intro (by omega) ?_
  conv=>whnf
  refine hKq _ _ _ (.refl _) ?_
  clear hKq Kq
  conv=>whnf
  refine Or.inl (And.intro (by omega) ?_)
  conv=>whnf
  rw [hs] at hp
  exact ⟨mm - 1,_,by omega,⟨j+1,m / 2,by omega,by rw [hm,Nat.div_div_eq_div_mul,Nat.pow_succ],rfl,hp⟩,sub_cons rfl (sub_cons rfl (sub_cons rfl (sub_cons (by show some _=some _; congr 3; omega) sub_nil)))⟩
 ·have hlt:=of_decide_eq_false hlt
  conv=>whnf
  clear hKq Kq
  refine hKq _ _ _ (.refl _) ?_
  clear hKq Kq
  conv=>whnf
  refine VSeq.mk fun Kq hKq=>?_
  conv=>whnf
  obtain rfl:j=32:=by omega
  rw [upR_all] at hp
  refine ⟨_,_,Blk.ldN (hp.get (i:=0) rfl) TTok rfl (wb_len _),?_⟩
  conv=>whnf
  refine hp.kstA TTok rfl 1 rfl (wb_len _) (wb_one _) (wb_len _) fun w hp=>?_
  try simp only [List.set_cons_zero,List.set_cons_succ,EV.val] at hp
  conv=>whnf
  refine hKq _ _ _ (.refl _) ?_
  clear hKq Kq
  conv=>whnf
  exact ⟨_,Blk.lvN (hp.get (i:=1) rfl) TTok rfl (wb_len _),rfl,hp.ext⟩
set_option maxHeartbeats 1600000 in
theorem value_p (n:Nat) (hn:n < M32):PureF Tryz.prog 195 #[wV n] (.int .i64 n):=by
 unfold wV
 have hn:n < 4294967296:=hn
 first | refine v_pure TTok FFok Tryz.func195 rfl rfl fun w0=>?_ | refine v_pure (args:=[]) TTok FFok Tryz.func195 rfl rfl fun w0=>?_
 conv=>whnf
 refine VSeq.mk fun Kq hKq=>?_
 conv=>whnf
 have hp:=Hp.nil w0
 refine hp.kbox (wd n) rfl fun q1 w hp hx=>?_
 conv=>whnf
 refine hKq _ _ _ (.refl _) ?_
 clear hKq Kq
 conv=>whnf
 refine VSeq.mk fun Kq hKq=>?_
 conv=>whnf
 refine hKq _ _ _ (.refl _) ?_
 clear hKq Kq
 conv=>whnf
 refine VSeq.mk fun Kq hKq=>?_
 conv=>whnf
 refine VSeq.mk fun Kq hKq=>?_
 conv=>whnf
 refine hKq _ _ _ (.refl _) ?_
 clear hKq Kq
 conv=>whnf
 have hp:HpM [] w0 w [blk q1 (wd n) 273]:=hp
 refine ⟨fun mm e w'=>∃ (j v:Nat),mm+j=32∧v=n / 2 ^ (32 - j)∧e=[(1,.v (.pointer (some ⟨q1,0,none⟩))),(3,.v (.int .i64 v)),(4,.v (.int .i64 j))]∧HpM [] w0 w' [blk q1 (wd n) 273],
   ⟨32,_,⟨0,0,by omega,by rw [Nat.sub_zero]; omega,rfl,hp⟩,sub_cons rfl (sub_cons rfl (sub_cons rfl sub_nil))⟩,?_⟩
 clear hp hx
 repeat clear hp
 rintro mm _ w ⟨j,v,hmm,hv,rfl,hp⟩
 have hle:n / 2 ^ (32 - j)≤n:=Nat.div_le_self _ _
 rw [← hv] at hle
 conv=>whnf
 refine VSeq.mk fun Kq hKq=>?_
 conv=>whnf
 refine VSeq.mk fun Kq hKq=>?_
 conv=>whnf
 refine hKq _ _ _ (.refl _) ?_
 clear hKq Kq
 conv=>whnf
 refine ⟨fun hlt=>?_,fun hlt=>?_⟩
 ·have hlt:=of_decide_eq_true hlt
  conv=>whnf
  refine hKq _ _ _ (.refl _) ?_
  clear hKq Kq
  conv=>whnf
  refine VSeq.mk fun Kq hKq=>?_
  conv=>whnf
  refine VSeq.mk fun Kq hKq=>?_
  conv=>whnf
  refine Or.inl (And.intro (by omega) ?_)
  conv=>whnf
  refine hKq _ _ _ (.refl _) ?_
  clear hKq Kq
  conv=>whnf
  refine VSeq.mk fun Kq hKq=>?_
  conv=>whnf
  have hv2:n / 2 ^ (32 - (j+1))=2 * v+(n.testBit (31 - j)).toNat:=by
   rw [Nat.toNat_testBit,hv,show 32 - j=(31 - j)+1 by omega,show 32 - (j+1)=31 - j by omega,Nat.pow_succ,← Nat.div_div_eq_div_mul]
   omega
  have hle2:n / 2 ^ (32 - (j+1))≤n:=Nat.div_le_self _ _
  rw [hv2] at hle2
  refine ⟨j,⟨by first | rfl | omega,by omega⟩,?_⟩
  conv=>whnf
  refine ⟨_,_,Blk.ld (hp.get (i:=0) rfl) TTok rfl (wd_get n j (by omega)),?_⟩
  conv=>whnf
  refine hKq _ _ _ (.refl _) ?_
  clear hKq Kq
  conv=>whnf
  cases hb:n.testBit (31 - j) with
  | true =>
   rw [hb] at hv2 hle2
   have hle2:2 * v+1≤n:=hle2
   refine And.intro (fun _=>?_) (fun h=>by cases h)
   conv=>whnf
   refine Or.inl (And.intro (by omega) ?_)
   conv=>whnf
   refine hKq _ _ _ (.refl _) ?_
   clear hKq Kq
   conv=>whnf
   refine Or.inl (And.intro (by omega) ?_)
   conv=>whnf
   exact ⟨mm - 1,_,by omega,⟨j+1,2 * v+1,by omega,hv2.symm,rfl,hp⟩,sub_cons rfl (sub_cons rfl (sub_cons rfl sub_nil))⟩
  | false =>
   rw [hb] at hv2 hle2
   have hle2:2 * v≤n:=hle2
   refine And.intro (fun h=>by cases h) (fun _=>?_)
   conv=>whnf
   refine hKq _ _ _ (.refl _) ?_
   clear hKq Kq
   conv=>whnf
   refine Or.inl (And.intro (by omega) ?_)
   conv=>whnf
   exact ⟨mm - 1,_,by omega,⟨j+1,2 * v,by omega,hv2.symm,rfl,hp⟩,sub_cons rfl (sub_cons rfl (sub_cons rfl sub_nil))⟩
 ·have hlt:=of_decide_eq_false hlt
  conv=>whnf
  clear hKq Kq
  refine hKq _ _ _ (.refl _) ?_
  clear hKq Kq
  conv=>whnf
  refine VSeq.mk fun Kq hKq=>?_
  conv=>whnf
  refine hKq _ _ _ (.refl _) ?_
  clear hKq Kq
  conv=>whnf
  obtain rfl:j=32:=by omega
  rw [Nat.sub_self,Nat.pow_zero,Nat.div_one] at hv
  rw [hv]
  exact ⟨rfl,hp.ext⟩
/-- filled in an order -/
def up (S:Nat→Nat) (F:Nat→Bool) (j:Nat):Nat→Bool:=fun x=>if S x < j then F x else false
theorem up_zero (S:Nat→Nat) (F:Nat→Bool):wb (up S F 0)=wb fun _=>false:=wb_congr fun i h=>if_neg (by omega)
theorem up_set (S:Nat→Nat) (F:Nat→Bool) (j y:Nat) (b:Bool) (hS:∀ x,x < 32→(S x=j↔x=y)) (hy:y < 32) (hb:b=F y):(wb (up S F j)).set y (.bool b)=wb (up S F (j+1)):=by
 rw [wb_set]
 refine wb_congr fun i hi=>?_
 unfold up
 by_cases e:i=y
 ·subst e; rw [if_pos rfl,if_pos (by have:=(hS i hi).2 rfl; omega),hb]
 ·rw [if_neg e]
  have hne:S i≠j:=fun h=>e ((hS i hi).1 h)
  by_cases e2:S i < j
  ·rw [if_pos e2,if_pos (by omega)]
  ·rw [if_neg e2,if_neg (by omega)]
set_option maxHeartbeats 1600000 in
theorem turned_raw (n k:Nat) (hk:k < 32):PureF Tryz.prog 197 #[wV n,.int .i64 k] (.agg (wb fun x=>n.testBit (31 - (x+32 - k) % 32)).toArray):=by
 unfold wV
 first | refine v_pure TTok FFok Tryz.func197 rfl rfl fun w0=>?_ | refine v_pure (args:=[]) TTok FFok Tryz.func197 rfl rfl fun w0=>?_
 conv=>whnf
 refine VSeq.mk fun Kq hKq=>?_
 conv=>whnf
 have hp:=Hp.nil w0
 refine hp.kbox (wd n) rfl fun q1 w hp hx=>?_
 conv=>whnf
 refine hp.kalloc z273 fun q2 w hp hx=>?_
 conv=>whnf
 refine hKq _ _ _ (.refl _) ?_
 clear hKq Kq
 conv=>whnf
 refine VSeq.mk fun Kq hKq=>?_
 conv=>whnf
 refine hp.kalloc z273 fun q3 w hp hx=>?_
 conv=>whnf
 refine hKq _ _ _ (.refl _) ?_
 clear hKq Kq
 conv=>whnf
 refine VSeq.mk fun Kq hKq=>?_
 conv=>whnf
 refine VSeq.mk fun Kq hKq=>?_
 conv=>whnf
 refine hKq _ _ _ (.refl _) ?_
 clear hKq Kq
 conv=>whnf
 have hp:HpM [] w0 w [blk q3 (wb (up (fun x=>(x+32 - k) % 32) (fun x=>n.testBit (31 - (x+32 - k) % 32)) 0)) 273,blk q2 (wb fun _=>false) 273,blk q1 (wd n) 273]:=by rw [up_zero]; exact hp
 refine ⟨fun mm e w'=>∃ (j:Nat),mm+j=32∧e=[(1,.v (.int .i64 k)),(2,.v (.pointer (some ⟨q1,0,none⟩))),(4,.v (.pointer (some ⟨q2,0,none⟩))),(5,.v (.pointer (some ⟨q3,0,none⟩))),(6,.v (.int .i64 j))]∧HpM [] w0 w' [blk q3 (wb (up (fun x=>(x+32 - k) % 32) (fun x=>n.testBit (31 - (x+32 - k) % 32)) j)) 273,blk q2 (wb fun _=>false) 273,blk q1 (wd n) 273],
   ⟨32,_,⟨0,by omega,rfl,hp⟩,sub_cons rfl (sub_cons rfl (sub_cons rfl (sub_cons rfl (sub_cons rfl sub_nil))))⟩,?_⟩
 clear hp hx
 repeat clear hp
 rintro mm _ w ⟨j,hmm,rfl,hp⟩
 conv=>whnf
 refine VSeq.mk fun Kq hKq=>?_
 conv=>whnf
 refine VSeq.mk fun Kq hKq=>?_
 conv=>whnf
 refine hKq _ _ _ (.refl _) ?_
 clear hKq Kq
 conv=>whnf
 refine ⟨fun hlt=>?_,fun hlt=>?_⟩
 ·have hlt:=of_decide_eq_true hlt
  conv=>whnf
  refine hKq _ _ _ (.refl _) ?_
  clear hKq Kq
  conv=>whnf
  refine VSeq.mk fun Kq hKq=>?_
  conv=>whnf
  refine Or.inl (And.intro (by omega) ?_)
  conv=>whnf
  refine And.intro (by omega) ?_
  conv=>whnf
  have hb:n.testBit (31 - j)=n.testBit (31 - ((j+k) % 32+32 - k) % 32):=by congr 2; omega
  have hs:=up_set (fun x=>(x+32 - k) % 32) (fun x=>n.testBit (31 - (x+32 - k) % 32)) j ((j+k) % 32) (n.testBit (31 - j)) (fun x hx=>by show (x+32 - k) % 32=j↔_; omega) (by omega) hb
  refine ⟨j,⟨by first | rfl | omega,by omega⟩,?_⟩
  conv=>whnf
  refine ⟨_,_,Blk.ld (hp.get (i:=2) rfl) TTok rfl (wd_get n j (by omega)),?_⟩
  conv=>whnf
  refine ⟨(j+k) % 32,⟨by first | rfl | omega,by omega⟩,?_⟩
  conv=>whnf
  refine hp.kst1 (off:=(j+k) % 32) TTok (by rfl) 0 (by rfl) (by rfl) (by rfl) (by rw [wb_len]; omega) fun w hp=>?_
  try simp only [List.set_cons_zero,List.set_cons_succ,EV.val] at hp
  conv=>whnf
  refine hKq _ _ _ (.refl _) ?_
  clear hKq Kq
  conv=>whnf
  refine Or.inl (And.intro (by omega) ?_)
  conv=>whnf
  rw [hs] at hp
  exact ⟨mm - 1,_,by omega,⟨j+1,by omega,rfl,hp⟩,sub_cons rfl (sub_cons rfl (sub_cons rfl (sub_cons rfl (sub_cons rfl sub_nil))))⟩
 ·have hlt:=of_decide_eq_false hlt
  conv=>whnf
  clear hKq Kq
  refine hKq _ _ _ (.refl _) ?_
  clear hKq Kq
  conv=>whnf
  refine VSeq.mk fun Kq hKq=>?_
  conv=>whnf
  obtain rfl:j=32:=by omega
  have he:wb (up (fun x=>(x+32 - k) % 32) (fun x=>n.testBit (31 - (x+32 - k) % 32)) 32)=wb fun x=>n.testBit (31 - (x+32 - k) % 32):=wb_congr fun i hi=>if_pos (by show (i+32 - k) % 32 < 32; omega)
  rw [he] at hp
  refine ⟨_,_,Blk.ldN (hp.get (i:=0) rfl) TTok rfl (wb_len _),?_⟩
  conv=>whnf
  refine hp.kstA TTok rfl 1 rfl (wb_len _) (wb_one _) (wb_len _) fun w hp=>?_
  try simp only [List.set_cons_zero,List.set_cons_succ,EV.val] at hp
  conv=>whnf
  refine hKq _ _ _ (.refl _) ?_
  clear hKq Kq
  conv=>whnf
  exact ⟨_,Blk.lvN (hp.get (i:=1) rfl) TTok rfl (wb_len _),rfl,hp.ext⟩
set_option maxHeartbeats 1600000 in
theorem moved_raw (n k:Nat) (hk:k < 32) (hn:n < M32):PureF Tryz.prog 198 #[wV n,.int .i64 k] (wV (n / 2 ^ k)):=by
 unfold wV
 first | refine v_pure TTok FFok Tryz.func198 rfl rfl fun w0=>?_ | refine v_pure (args:=[]) TTok FFok Tryz.func198 rfl rfl fun w0=>?_
 conv=>whnf
 refine VSeq.mk fun Kq hKq=>?_
 conv=>whnf
 have hp:=Hp.nil w0
 refine hp.kbox (wd n) rfl fun q1 w hp hx=>?_
 conv=>whnf
 refine hp.kalloc z273 fun q2 w hp hx=>?_
 conv=>whnf
 refine hKq _ _ _ (.refl _) ?_
 clear hKq Kq
 conv=>whnf
 refine VSeq.mk fun Kq hKq=>?_
 conv=>whnf
 refine hp.kalloc z273 fun q3 w hp hx=>?_
 conv=>whnf
 refine hKq _ _ _ (.refl _) ?_
 clear hKq Kq
 conv=>whnf
 refine VSeq.mk fun Kq hKq=>?_
 conv=>whnf
 refine VSeq.mk fun Kq hKq=>?_
 conv=>whnf
 refine hKq _ _ _ (.refl _) ?_
 clear hKq Kq
 conv=>whnf
 obtain ⟨S,hS⟩:∃ S:Nat→Nat,S=fun x=>if x < k then 1000 else x - k:=⟨_,rfl⟩
 have hp:HpM [] w0 w [blk q3 (wb (up S (fun i=>(n / 2 ^ k).testBit (31 - i)) 0)) 273,blk q2 (wb fun _=>false) 273,blk q1 (wd n) 273]:=by rw [up_zero]; exact hp
 refine ⟨fun mm e w'=>∃ (j:Nat),mm+j=32 - k∧e=[(1,.v (.int .i64 k)),(2,.v (.pointer (some ⟨q1,0,none⟩))),(4,.v (.pointer (some ⟨q2,0,none⟩))),(5,.v (.pointer (some ⟨q3,0,none⟩))),(6,.v (.int .i64 j))]∧HpM [] w0 w' [blk q3 (wb (up S (fun i=>(n / 2 ^ k).testBit (31 - i)) j)) 273,blk q2 (wb fun _=>false) 273,blk q1 (wd n) 273],
   ⟨32 - k,_,⟨0,by omega,rfl,hp⟩,sub_cons rfl (sub_cons rfl (sub_cons rfl (sub_cons rfl (sub_cons rfl sub_nil))))⟩,?_⟩
 clear hp hx
 repeat clear hp
 rintro mm _ w ⟨j,hmm,rfl,hp⟩
 conv=>whnf
 refine VSeq.mk fun Kq hKq=>?_
 conv=>whnf
 refine VSeq.mk fun Kq hKq=>?_
 conv=>whnf
 refine Or.inl (And.intro (by omega) ?_)
 conv=>whnf
 refine hKq _ _ _ (.refl _) ?_
 clear hKq Kq
 conv=>whnf
 refine ⟨fun hlt=>?_,fun hlt=>?_⟩
 ·have hlt:=of_decide_eq_true hlt
  conv=>whnf
  refine hKq _ _ _ (.refl _) ?_
  clear hKq Kq
  conv=>whnf
  refine VSeq.mk fun Kq hKq=>?_
  conv=>whnf
  refine Or.inl (And.intro (by omega) ?_)
  conv=>whnf
  have hb:n.testBit (31 - j)=(n / 2 ^ k).testBit (31 - (j+k)):=by
   rw [Nat.testBit_div_two_pow]; congr 1; omega
  have hs:=up_set S (fun i=>(n / 2 ^ k).testBit (31 - i)) j (j+k) (n.testBit (31 - j)) (fun x hx=>by subst hS; dsimp only; split <;> omega) (by omega) hb
  refine ⟨j,⟨by first | rfl | omega,by omega⟩,?_⟩
  conv=>whnf
  refine ⟨_,_,Blk.ld (hp.get (i:=2) rfl) TTok rfl (wd_get n j (by omega)),?_⟩
  conv=>whnf
  refine ⟨j+k,⟨by first | rfl | omega,by omega⟩,?_⟩
  conv=>whnf
  refine hp.kst1 (off:=j+k) TTok (by rfl) 0 (by rfl) (by rfl) (by rfl) (by rw [wb_len]; omega) fun w hp=>?_
  try simp only [List.set_cons_zero,List.set_cons_succ,EV.val] at hp
  conv=>whnf
  refine hKq _ _ _ (.refl _) ?_
  clear hKq Kq
  conv=>whnf
  refine Or.inl (And.intro (by omega) ?_)
  conv=>whnf
  rw [hs] at hp
  exact ⟨mm - 1,_,by omega,⟨j+1,by omega,rfl,hp⟩,sub_cons rfl (sub_cons rfl (sub_cons rfl (sub_cons rfl (sub_cons rfl sub_nil))))⟩
 ·have hlt:=of_decide_eq_false hlt
  conv=>whnf
  clear hKq Kq
  refine hKq _ _ _ (.refl _) ?_
  clear hKq Kq
  conv=>whnf
  refine VSeq.mk fun Kq hKq=>?_
  conv=>whnf
  obtain rfl:j=32 - k:=by omega
  have he:wb (up S (fun i=>(n / 2 ^ k).testBit (31 - i)) (32 - k))=wd (n / 2 ^ k):=by
   refine wb_congr fun i hi=>?_
   show (if S i < 32 - k then _ else _)=_
   by_cases h:i < k
   ·have e1:S i=1000:=by subst hS; exact if_pos h
    rw [if_neg (by omega),Nat.testBit_div_two_pow]
    refine (Nat.testBit_lt_two_pow (Nat.lt_of_lt_of_le hn ?_)).symm
    show 2 ^ 32≤_
    exact Nat.pow_le_pow_right (by decide) (by omega)
   ·have e1:S i=i - k:=by subst hS; exact if_neg h
    rw [if_pos (by omega)]
  rw [he] at hp
  refine ⟨_,_,Blk.ldN (hp.get (i:=0) rfl) TTok rfl (wb_len _),?_⟩
  conv=>whnf
  refine hp.kstA TTok rfl 1 rfl (wb_len _) (wb_one _) (wb_len _) fun w hp=>?_
  try simp only [List.set_cons_zero,List.set_cons_succ,EV.val] at hp
  conv=>whnf
  refine hKq _ _ _ (.refl _) ?_
  clear hKq Kq
  conv=>whnf
  exact ⟨_,Blk.lvN (hp.get (i:=1) rfl) TTok rfl (wb_len _),rfl,hp.ext⟩
theorem rotl_bit (x r i:Nat) (hx:x < M32) (hr:r < 32):(rotl x r).testBit i=if i < r then x.testBit (i+32 - r) else (decide (i - r < 32 - r) && x.testBit (i - r)):=by
 have hx:x < 2 ^ 32:=hx
 have h1:x * 2 ^ r % 4294967296=2 ^ r * (x % 2 ^ (32 - r)):=by
  rw [Nat.mul_comm x,show (4294967296:Nat)=2 ^ r * 2 ^ (32 - r) by rw [← Nat.pow_add,show r+(32 - r)=32 by omega],Nat.mul_mod_mul_left]
 have h2:x / 2 ^ (32 - r) < 2 ^ r:=by
  rw [Nat.div_lt_iff_lt_mul (Nat.pow_pos (by decide)),← Nat.pow_add,show r+(32 - r)=32 by omega]
  exact hx
 unfold rotl
 rw [h1,Nat.testBit_two_pow_mul_add _ h2,Nat.testBit_mod_two_pow]
 by_cases h:i < r
 ·rw [if_pos h,if_pos h,Nat.testBit_div_two_pow]; congr 1; omega
 ·rw [if_neg h,if_neg h]
theorem wd_rotl (n k:Nat) (hn:n < M32) (hk:k < 32) (h0:0 < k):(wb fun x=>n.testBit (31 - (x+32 - k) % 32))=wd (rotl n (32 - k)):=by
 refine wb_congr fun i hi=>?_
 rw [rotl_bit n (32 - k) (31 - i) hn (by omega)]
 by_cases h:31 - i < 32 - k
 ·rw [if_pos h]; congr 1; omega
 ·rw [if_neg h,decide_eq_true (by omega),Bool.true_and]; congr 1; omega
theorem turned_p (n k:Nat) (hn:n < M32) (hk:k < 32) (h0:0 < k):PureF Tryz.prog 197 #[wV n,.int .i64 k] (wV (rotl n (32 - k))):=by
 have h:=turned_raw n k hk
 rw [wd_rotl n k hn hk h0] at h
 exact h
theorem neq_bool2 (xo yo:Operand) (a b:Bool) (w:World):(do eqGuard .neq 4 xo yo (.bool a) (.bool b); binOp .neq 4 (.bool a) (.bool b):Sem Value).run Tryz.prog w = .ok (.bool (a ^^ b)) w:=by
 cases a <;> cases b <;> kernel_rfl
set_option maxHeartbeats 1600000 in
theorem xor_p (a b:Nat):PureF Tryz.prog 199 #[wV a,wV b] (wV (a ^^^ b)):=by
 unfold wV
 have hF:∀ i,(fun i=>(a ^^^ b).testBit (31 - i)) i=(a.testBit (31 - i) ^^ b.testBit (31 - i)):=fun i=>Nat.testBit_xor _ _ _
 obtain ⟨F,hFd⟩:∃ F:Nat→Bool,F=fun i=>(a ^^^ b).testBit (31 - i):=⟨_,rfl⟩
 have hW:wd (a ^^^ b)=wb F:=by rw [hFd]; rfl
 rw [hW]
 rw [← hFd] at hF
 first | refine v_pure TTok FFok Tryz.func199 rfl rfl fun w0=>?_ | refine v_pure (args:=[]) TTok FFok Tryz.func199 rfl rfl fun w0=>?_
 conv=>whnf
 refine VSeq.mk fun Kq hKq=>?_
 conv=>whnf
 have hp:=Hp.nil w0
 refine hp.kbox (wd a) rfl fun q1 w hp hx=>?_
 conv=>whnf
 refine hp.kbox (wd b) rfl fun q2 w hp hx=>?_
 conv=>whnf
 refine hp.kalloc z273 fun q3 w hp hx=>?_
 conv=>whnf
 refine hKq _ _ _ (.refl _) ?_
 clear hKq Kq
 conv=>whnf
 refine VSeq.mk fun Kq hKq=>?_
 conv=>whnf
 refine hp.kalloc z273 fun q4 w hp hx=>?_
 conv=>whnf
 refine hKq _ _ _ (.refl _) ?_
 clear hKq Kq
 conv=>whnf
 refine VSeq.mk fun Kq hKq=>?_
 conv=>whnf
 refine VSeq.mk fun Kq hKq=>?_
 conv=>whnf
 refine hKq _ _ _ (.refl _) ?_
 clear hKq Kq
 conv=>whnf
 have hp:HpM [] w0 w [blk q4 (wb (upL F 0)) 273,blk q3 (wb fun _=>false) 273,blk q2 (wd b) 273,blk q1 (wd a) 273]:=by rw [upL_zero]; exact hp
 refine ⟨fun mm e w'=>∃ (j:Nat),mm+j=32∧e=[(2,.v (.pointer (some ⟨q1,0,none⟩))),(3,.v (.pointer (some ⟨q2,0,none⟩))),(4,.v (.pointer (some ⟨q3,0,none⟩))),(5,.v (.pointer (some ⟨q4,0,none⟩))),(6,.v (.int .i64 j))]∧HpM [] w0 w' [blk q4 (wb (upL F j)) 273,blk q3 (wb fun _=>false) 273,blk q2 (wd b) 273,blk q1 (wd a) 273],
   ⟨32,_,⟨0,by omega,rfl,hp⟩,sub_cons rfl (sub_cons rfl (sub_cons rfl (sub_cons rfl (sub_cons rfl sub_nil))))⟩,?_⟩
 clear hp hx
 repeat clear hp
 rintro mm _ w ⟨j,hmm,rfl,hp⟩
 conv=>whnf
 refine VSeq.mk fun Kq hKq=>?_
 conv=>whnf
 refine VSeq.mk fun Kq hKq=>?_
 conv=>whnf
 refine hKq _ _ _ (.refl _) ?_
 clear hKq Kq
 conv=>whnf
 refine ⟨fun hlt=>?_,fun hlt=>?_⟩
 ·have hlt:=of_decide_eq_true hlt
  conv=>whnf
  refine hKq _ _ _ (.refl _) ?_
  clear hKq Kq
  conv=>whnf
  refine VSeq.mk fun Kq hKq=>?_
  conv=>whnf
  have hs:=upL_set F j (F j) rfl
  have hFj:=hF j
  refine v_mix TTok FFok mixed 9 [(0,false),(1,false),(2,false),(3,false),(4,false),(5,false),(6,false),(7,false),(8,false)] (by kernel_rfl) ?_
  conv=>whnf
  refine ⟨j,⟨by first | rfl | omega,by omega⟩,?_⟩
  conv=>whnf
  refine ⟨_,fun w' hx'=>Blk.ld (Blk.ext (hp.get (i:=3) rfl) hx') TTok rfl (wd_get a j (by omega)),?_⟩
  conv=>whnf
  refine ⟨j,⟨by first | rfl | omega,by omega⟩,?_⟩
  conv=>whnf
  refine ⟨_,fun w' hx'=>Blk.ld (Blk.ext (hp.get (i:=2) rfl) hx') TTok rfl (wd_get b j (by omega)),?_⟩
  conv=>whnf
  refine ⟨_,fun w1 _=>neq_bool2 _ _ _ _ w1,?_⟩
  conv=>whnf
  refine ⟨j,⟨by first | rfl | omega,by omega⟩,?_⟩
  conv=>whnf
  intro w hx
  try (have hp:=hp.call hx)
  conv=>whnf
  rw [← hFj]
  refine hp.kst1 (off:=j) TTok (by rfl) 0 (by rfl) (by rfl) (by rfl) (by rw [wb_len]; omega) fun w hp=>?_
  try simp only [List.set_cons_zero,List.set_cons_succ,EV.val] at hp
  conv=>whnf
  refine hKq _ _ _ (.refl _) ?_
  clear hKq Kq
  conv=>whnf
  refine Or.inl (And.intro (by omega) ?_)
  conv=>whnf
  rw [hs] at hp
  exact ⟨mm - 1,_,by omega,⟨j+1,by omega,rfl,hp⟩,sub_cons rfl (sub_cons rfl (sub_cons rfl (sub_cons rfl (sub_cons rfl sub_nil))))⟩
 ·have hlt:=of_decide_eq_false hlt
  conv=>whnf
  clear hKq Kq
  refine hKq _ _ _ (.refl _) ?_
  clear hKq Kq
  conv=>whnf
  refine VSeq.mk fun Kq hKq=>?_
  conv=>whnf
  obtain rfl:j=32:=by omega
  rw [upL_all] at hp
  refine ⟨_,_,Blk.ldN (hp.get (i:=0) rfl) TTok rfl (wb_len _),?_⟩
  conv=>whnf
  refine hp.kstA TTok rfl 1 rfl (wb_len _) (wb_one _) (wb_len _) fun w hp=>?_
  try simp only [List.set_cons_zero,List.set_cons_succ,EV.val] at hp
  conv=>whnf
  refine hKq _ _ _ (.refl _) ?_
  clear hKq Kq
  conv=>whnf
  exact ⟨_,Blk.lvN (hp.get (i:=1) rfl) TTok rfl (wb_len _),rfl,hp.ext⟩
set_option maxHeartbeats 1600000 in
theorem and_p (a b:Nat):PureF Tryz.prog 200 #[wV a,wV b] (wV (a &&& b)):=by
 unfold wV
 have hF:∀ i,(fun i=>(a &&& b).testBit (31 - i)) i=(a.testBit (31 - i) && b.testBit (31 - i)):=fun i=>Nat.testBit_and _ _ _
 obtain ⟨F,hFd⟩:∃ F:Nat→Bool,F=fun i=>(a &&& b).testBit (31 - i):=⟨_,rfl⟩
 have hW:wd (a &&& b)=wb F:=by rw [hFd]; rfl
 rw [hW]
 rw [← hFd] at hF
 first | refine v_pure TTok FFok Tryz.func200 rfl rfl fun w0=>?_ | refine v_pure (args:=[]) TTok FFok Tryz.func200 rfl rfl fun w0=>?_
 conv=>whnf
 refine VSeq.mk fun Kq hKq=>?_
 conv=>whnf
 have hp:=Hp.nil w0
 refine hp.kbox (wd a) rfl fun q1 w hp hx=>?_
 conv=>whnf
 refine hp.kbox (wd b) rfl fun q2 w hp hx=>?_
 conv=>whnf
 refine hp.kalloc z273 fun q3 w hp hx=>?_
 conv=>whnf
 refine hKq _ _ _ (.refl _) ?_
 clear hKq Kq
 conv=>whnf
 refine VSeq.mk fun Kq hKq=>?_
 conv=>whnf
 refine hp.kalloc z273 fun q4 w hp hx=>?_
 conv=>whnf
 refine hKq _ _ _ (.refl _) ?_
 clear hKq Kq
 conv=>whnf
 refine VSeq.mk fun Kq hKq=>?_
 conv=>whnf
 refine VSeq.mk fun Kq hKq=>?_
 conv=>whnf
 refine hKq _ _ _ (.refl _) ?_
 clear hKq Kq
 conv=>whnf
 have hp:HpM [] w0 w [blk q4 (wb (upL F 0)) 273,blk q3 (wb fun _=>false) 273,blk q2 (wd b) 273,blk q1 (wd a) 273]:=by rw [upL_zero]; exact hp
 refine ⟨fun mm e w'=>∃ (j:Nat),mm+j=32∧e=[(2,.v (.pointer (some ⟨q1,0,none⟩))),(3,.v (.pointer (some ⟨q2,0,none⟩))),(4,.v (.pointer (some ⟨q3,0,none⟩))),(5,.v (.pointer (some ⟨q4,0,none⟩))),(6,.v (.int .i64 j))]∧HpM [] w0 w' [blk q4 (wb (upL F j)) 273,blk q3 (wb fun _=>false) 273,blk q2 (wd b) 273,blk q1 (wd a) 273],
   ⟨32,_,⟨0,by omega,rfl,hp⟩,sub_cons rfl (sub_cons rfl (sub_cons rfl (sub_cons rfl (sub_cons rfl sub_nil))))⟩,?_⟩
 clear hp hx
 repeat clear hp
 rintro mm _ w ⟨j,hmm,rfl,hp⟩
 conv=>whnf
 refine VSeq.mk fun Kq hKq=>?_
 conv=>whnf
 refine VSeq.mk fun Kq hKq=>?_
 conv=>whnf
 refine hKq _ _ _ (.refl _) ?_
 clear hKq Kq
 conv=>whnf
 refine ⟨fun hlt=>?_,fun hlt=>?_⟩
 ·have hlt:=of_decide_eq_true hlt
  conv=>whnf
  refine hKq _ _ _ (.refl _) ?_
  clear hKq Kq
  conv=>whnf
  refine VSeq.mk fun Kq hKq=>?_
  conv=>whnf
  refine VSeq.mk fun Kq hKq=>?_
  conv=>whnf
  have hs:=upL_set F j (F j) rfl
  have hFj:=hF j
  refine ⟨j,⟨by first | rfl | omega,by omega⟩,?_⟩
  conv=>whnf
  refine ⟨_,_,Blk.ld (hp.get (i:=3) rfl) TTok rfl (wd_get a j (by omega)),?_⟩
  conv=>whnf
  refine hKq _ _ _ (.refl _) ?_
  clear hKq Kq
  conv=>whnf
  cases ha:a.testBit (31 - j) with
  | true =>
   rw [ha,Bool.true_and] at hFj
   refine And.intro (fun _=>?_) (fun h=>by cases h)
   conv=>whnf
   refine ⟨j,⟨by first | rfl | omega,by omega⟩,?_⟩
   conv=>whnf
   refine ⟨_,_,Blk.ld (hp.get (i:=2) rfl) TTok rfl (wd_get b j (by omega)),?_⟩
   conv=>whnf
   rw [← hFj]
   refine ⟨j,⟨by first | rfl | omega,by omega⟩,?_⟩
   conv=>whnf
   refine hp.kst1 (off:=j) TTok (by rfl) 0 (by rfl) (by rfl) (by rfl) (by rw [wb_len]; omega) fun w hp=>?_
   try simp only [List.set_cons_zero,List.set_cons_succ,EV.val] at hp
   conv=>whnf
   refine hKq _ _ _ (.refl _) ?_
   clear hKq Kq
   conv=>whnf
   refine Or.inl (And.intro (by omega) ?_)
   conv=>whnf
   rw [hs] at hp
   exact ⟨mm - 1,_,by omega,⟨j+1,by omega,rfl,hp⟩,sub_cons rfl (sub_cons rfl (sub_cons rfl (sub_cons rfl (sub_cons rfl sub_nil))))⟩
  | false =>
   rw [ha,Bool.false_and] at hFj
   refine And.intro (fun h=>by cases h) (fun _=>?_)
   conv=>whnf
   refine ⟨j,⟨by first | rfl | omega,by omega⟩,?_⟩
   conv=>whnf
   refine hp.kst1 (off:=j) TTok (by rfl) 0 (by rfl) (by rfl) (by rfl) (by rw [wb_len]; omega) fun w hp=>?_
   try simp only [List.set_cons_zero,List.set_cons_succ,EV.val] at hp
   conv=>whnf
   refine hKq _ _ _ (.refl _) ?_
   clear hKq Kq
   conv=>whnf
   refine Or.inl (And.intro (by omega) ?_)
   conv=>whnf
   rw [hFj] at hs
   have hp:HpM [] w0 w [blk q4 ((wb (upL F j)).set j (.bool false)) 273,blk q3 (wb fun _=>false) 273,blk q2 (wd b) 273,blk q1 (wd a) 273]:=hp
   rw [hs] at hp
   exact ⟨mm - 1,_,by omega,⟨j+1,by omega,rfl,hp⟩,sub_cons rfl (sub_cons rfl (sub_cons rfl (sub_cons rfl (sub_cons rfl sub_nil))))⟩
 ·have hlt:=of_decide_eq_false hlt
  conv=>whnf
  clear hKq Kq
  refine hKq _ _ _ (.refl _) ?_
  clear hKq Kq
  conv=>whnf
  refine VSeq.mk fun Kq hKq=>?_
  conv=>whnf
  obtain rfl:j=32:=by omega
  rw [upL_all] at hp
  refine ⟨_,_,Blk.ldN (hp.get (i:=0) rfl) TTok rfl (wb_len _),?_⟩
  conv=>whnf
  refine hp.kstA TTok rfl 1 rfl (wb_len _) (wb_one _) (wb_len _) fun w hp=>?_
  try simp only [List.set_cons_zero,List.set_cons_succ,EV.val] at hp
  conv=>whnf
  refine hKq _ _ _ (.refl _) ?_
  clear hKq Kq
  conv=>whnf
  exact ⟨_,Blk.lvN (hp.get (i:=1) rfl) TTok rfl (wb_len _),rfl,hp.ext⟩
set_option maxHeartbeats 1600000 in
theorem not_p (a:Nat) (hn:a < M32):PureF Tryz.prog 201 #[wV a] (wV (4294967295 - a)):=by
 unfold wV
 have hF:∀ i,i < 32→(fun i=>(4294967295 - a).testBit (31 - i)) i = !(a.testBit (31 - i)):=fun i hi=>by
  show (4294967295 - a).testBit (31 - i)=_
  rw [show 4294967295 - a=2 ^ 32 - (a+1) by have hn:a < 4294967296:=hn; omega,Nat.testBit_two_pow_sub_succ hn,decide_eq_true (by omega),Bool.true_and]
 obtain ⟨F,hFd⟩:∃ F:Nat→Bool,F=fun i=>(4294967295 - a).testBit (31 - i):=⟨_,rfl⟩
 have hW:wd (4294967295 - a)=wb F:=by rw [hFd]; rfl
 rw [hW]
 rw [← hFd] at hF
 first | refine v_pure TTok FFok Tryz.func201 rfl rfl fun w0=>?_ | refine v_pure (args:=[]) TTok FFok Tryz.func201 rfl rfl fun w0=>?_
 conv=>whnf
 refine VSeq.mk fun Kq hKq=>?_
 conv=>whnf
 have hp:=Hp.nil w0
 refine hp.kbox (wd a) rfl fun q1 w hp hx=>?_
 conv=>whnf
 refine hp.kalloc z273 fun q2 w hp hx=>?_
 conv=>whnf
 refine hKq _ _ _ (.refl _) ?_
 clear hKq Kq
 conv=>whnf
 refine VSeq.mk fun Kq hKq=>?_
 conv=>whnf
 refine hp.kalloc z273 fun q3 w hp hx=>?_
 conv=>whnf
 refine hKq _ _ _ (.refl _) ?_
 clear hKq Kq
 conv=>whnf
 refine VSeq.mk fun Kq hKq=>?_
 conv=>whnf
 refine VSeq.mk fun Kq hKq=>?_
 conv=>whnf
 refine hKq _ _ _ (.refl _) ?_
 clear hKq Kq
 conv=>whnf
 have hp:HpM [] w0 w [blk q3 (wb (upL F 0)) 273,blk q2 (wb fun _=>false) 273,blk q1 (wd a) 273]:=by rw [upL_zero]; exact hp
 refine ⟨fun mm e w'=>∃ (j:Nat),mm+j=32∧e=[(1,.v (.pointer (some ⟨q1,0,none⟩))),(2,.v (.pointer (some ⟨q2,0,none⟩))),(3,.v (.pointer (some ⟨q3,0,none⟩))),(4,.v (.int .i64 j))]∧HpM [] w0 w' [blk q3 (wb (upL F j)) 273,blk q2 (wb fun _=>false) 273,blk q1 (wd a) 273],
   ⟨32,_,⟨0,by omega,rfl,hp⟩,sub_cons rfl (sub_cons rfl (sub_cons rfl (sub_cons rfl sub_nil)))⟩,?_⟩
 clear hp hx
 repeat clear hp
 rintro mm _ w ⟨j,hmm,rfl,hp⟩
 conv=>whnf
 refine VSeq.mk fun Kq hKq=>?_
 conv=>whnf
 refine VSeq.mk fun Kq hKq=>?_
 conv=>whnf
 refine hKq _ _ _ (.refl _) ?_
 clear hKq Kq
 conv=>whnf
 refine ⟨fun hlt=>?_,fun hlt=>?_⟩
 ·have hlt:=of_decide_eq_true hlt
  conv=>whnf
  refine hKq _ _ _ (.refl _) ?_
  clear hKq Kq
  conv=>whnf
  refine VSeq.mk fun Kq hKq=>?_
  conv=>whnf
  have hs:=upL_set F j (F j) rfl
  have hFj:=hF j (by omega)
  refine ⟨j,⟨by first | rfl | omega,by omega⟩,?_⟩
  conv=>whnf
  refine ⟨_,_,Blk.ld (hp.get (i:=2) rfl) TTok rfl (wd_get a j (by omega)),?_⟩
  conv=>whnf
  rw [← hFj]
  refine ⟨j,⟨by first | rfl | omega,by omega⟩,?_⟩
  conv=>whnf
  refine hp.kst1 (off:=j) TTok (by rfl) 0 (by rfl) (by rfl) (by rfl) (by rw [wb_len]; omega) fun w hp=>?_
  try simp only [List.set_cons_zero,List.set_cons_succ,EV.val] at hp
  conv=>whnf
  refine hKq _ _ _ (.refl _) ?_
  clear hKq Kq
  conv=>whnf
  refine Or.inl (And.intro (by omega) ?_)
  conv=>whnf
  rw [hs] at hp
  exact ⟨mm - 1,_,by omega,⟨j+1,by omega,rfl,hp⟩,sub_cons rfl (sub_cons rfl (sub_cons rfl (sub_cons rfl sub_nil)))⟩
 ·have hlt:=of_decide_eq_false hlt
  conv=>whnf
  clear hKq Kq
  refine hKq _ _ _ (.refl _) ?_
  clear hKq Kq
  conv=>whnf
  refine VSeq.mk fun Kq hKq=>?_
  conv=>whnf
  obtain rfl:j=32:=by omega
  rw [upL_all] at hp
  refine ⟨_,_,Blk.ldN (hp.get (i:=0) rfl) TTok rfl (wb_len _),?_⟩
  conv=>whnf
  refine hp.kstA TTok rfl 1 rfl (wb_len _) (wb_one _) (wb_len _) fun w hp=>?_
  try simp only [List.set_cons_zero,List.set_cons_succ,EV.val] at hp
  conv=>whnf
  refine hKq _ _ _ (.refl _) ?_
  clear hKq Kq
  conv=>whnf
  exact ⟨_,Blk.lvN (hp.get (i:=1) rfl) TTok rfl (wb_len _),rfl,hp.ext⟩
set_option maxHeartbeats 1600000 in
theorem three_p (a b c:Nat):PureF Tryz.prog 196 #[wV a,wV b,wV c] (wV (a ^^^ b ^^^ c)):=by
 have h1:=xor_p a b
 have h2:=xor_p (a ^^^ b) c
 unfold wV at h1 h2 ⊢
 first | refine v_pure TTok FFok Tryz.func196 rfl rfl fun w0=>?_ | refine v_pure (args:=[]) TTok FFok Tryz.func196 rfl rfl fun w0=>?_
 conv=>whnf
 refine VSeq.mk fun Kq hKq=>?_
 conv=>whnf
 have hp:=Hp.nil w0
 refine hp.kbox (wd a) rfl fun q1 w hp hx=>?_
 conv=>whnf
 refine hp.kbox (wd b) rfl fun q2 w hp hx=>?_
 conv=>whnf
 refine hp.kbox (wd c) rfl fun q3 w hp hx=>?_
 conv=>whnf
 refine hp.kalloc z273 fun q4 w hp hx=>?_
 conv=>whnf
 refine hKq _ _ _ (.refl _) ?_
 clear hKq Kq
 conv=>whnf
 refine VSeq.mk fun Kq hKq=>?_
 conv=>whnf
 refine v_mix TTok FFok mixed 5 [(0,false),(1,false),(2,false),(3,false),(4,false)] (by kernel_rfl) ?_
 conv=>whnf
 refine ⟨_,fun w' hx'=>Blk.ldN (Blk.ext (hp.get (i:=3) rfl) hx') TTok rfl (wd_len _),?_⟩
 conv=>whnf
 refine ⟨_,fun w' hx'=>Blk.ldN (Blk.ext (hp.get (i:=2) rfl) hx') TTok rfl (wd_len _),?_⟩
 conv=>whnf
 first | refine PureF.quiet (h1) ?_ | refine PureF.quietE (h1) ?_
 conv=>whnf
 refine ⟨_,fun w' hx'=>Blk.ldN (Blk.ext (hp.get (i:=1) rfl) hx') TTok rfl (wd_len _),?_⟩
 conv=>whnf
 first | refine PureF.quiet (h2) ?_ | refine PureF.quietE (h2) ?_
 conv=>whnf
 intro w hx
 try (have hp:=hp.call hx)
 conv=>whnf
 refine hp.kstA TTok rfl 0 rfl (wd_len _) (wd_one _) (by rfl) fun w hp=>?_
 try simp only [List.set_cons_zero,List.set_cons_succ,EV.val] at hp
 conv=>whnf
 refine hKq _ _ _ (.refl _) ?_
 clear hKq Kq
 conv=>whnf
 exact ⟨_,Blk.lvN (hp.get (i:=0) rfl) TTok rfl (wd_len _),rfl,hp.ext⟩
theorem sum_p (a b c d e:Nat) (ha:a < M32) (hb:b < M32) (hc:c < M32) (hd:d < M32) (he:e < M32):PureF Tryz.prog 194 #[.int .i64 a,.int .i64 b,.int .i64 c,.int .i64 d,.int .i64 e] (.int .i64 ((a+b+c+d+e) % M32:Nat)):=by
 have ha:a < 4294967296:=ha
 have hb:b < 4294967296:=hb
 have hc:c < 4294967296:=hc
 have hd:d < 4294967296:=hd
 have he:e < 4294967296:=he
 first | refine v_pure TTok FFok Tryz.func194 rfl rfl fun w0=>?_ | refine v_pure (args:=[]) TTok FFok Tryz.func194 rfl rfl fun w0=>?_
 conv=>whnf
 refine VSeq.mk fun Kq hKq=>?_
 conv=>whnf
 refine hKq _ _ _ (.refl _) ?_
 clear hKq Kq
 conv=>whnf
 refine VSeq.mk fun Kq hKq=>?_
 conv=>whnf
 refine Or.inl (And.intro (by omega) ?_)
 conv=>whnf
 refine Or.inl (And.intro (by omega) ?_)
 conv=>whnf
 refine Or.inl (And.intro (by omega) ?_)
 conv=>whnf
 refine Or.inl (And.intro (by omega) ?_)
 conv=>whnf
 refine And.intro (by omega) ?_
 conv=>whnf
 refine hKq _ _ _ (.refl _) ?_
 clear hKq Kq
 conv=>whnf
 have hp:=Hp.nil w0
 exact ⟨rfl,hp.ext⟩
def num2L (l:List UInt8):Nat:=l.foldl (fun a b=>256 * a+b.toNat) 0
theorem numL_app (l:List UInt8) (b:UInt8):num2L (l++[b])=256 * num2L l+b.toNat:=by unfold num2L; rw [List.foldl_append]; rfl
theorem num2L_take (l:List UInt8) (i:Nat) (h:i < l.length):num2L (l.take (i+1))=256 * num2L (l.take i)+(l.getD i 0).toNat:=by
 rw [List.take_add_one,List.getD_eq_getElem?_getD,List.getElem?_eq_getElem h]
 exact numL_app _ _
theorem num2L_lt (l:List UInt8):∀ i,i≤l.length→num2L (l.take i) < 256 ^ i
 | 0,_=>by rw [List.take_zero]; decide
 | i+1,h=>by
  have:=num2L_lt l i (by omega)
  have hb:=(l.getD i 0).toNat_lt
  rw [num2L_take l i (by omega),Nat.pow_succ]
  omega
theorem take4 (l:List UInt8) (k:Nat) (h:k+4≤l.length):(l.drop k).take 4=[l.getD k 0,l.getD (k+1) 0,l.getD (k+2) 0,l.getD (k+3) 0]:=by
 apply List.ext_getElem?
 intro j
 rw [List.getElem?_take,List.getElem?_drop]
 have hg:∀ m,m < l.length→l[m]? = some (l.getD m 0):=fun m hm=>by rw [List.getD_eq_getElem?_getD,List.getElem?_eq_getElem hm]; rfl
 rcases (by omega:j=0∨j=1∨j=2∨j=3∨4≤j) with rfl | rfl | rfl | rfl | h4
 ·rw [if_pos (by omega),hg _ (by omega)]; rfl
 ·rw [if_pos (by omega),hg _ (by omega)]; rfl
 ·rw [if_pos (by omega),hg _ (by omega)]; rfl
 ·rw [if_pos (by omega),hg _ (by omega)]; rfl
 ·rw [if_neg (by omega),List.getElem?_eq_none (by show 4≤j; exact h4)]
theorem numL_be4 (l:List UInt8) (k:Nat) (h:k+4≤l.length):num2L ((l.drop k).take 4)=be4 l k:=by
 rw [take4 l k h]
 unfold be4
 show 256 * (256 * (256 * (256 * 0+_)+_)+_)+_=_
 omega
set_option maxHeartbeats 1600000 in
theorem Number_p (s:ByteArray) (hs:s.size=4):PureF Tryz.prog 73 #[.string s] (.int .i64 (num2L s.data.toList)):=by
 have hsl:=toList_len s
 first | refine v_pure TTok FFok Tryz.func73 rfl rfl fun w0=>?_ | refine v_pure (args:=[]) TTok FFok Tryz.func73 rfl rfl fun w0=>?_
 conv=>whnf
 refine VSeq.mk fun Kq hKq=>?_
 conv=>whnf
 refine hKq _ _ _ (.refl _) ?_
 clear hKq Kq
 conv=>whnf
 refine VSeq.mk fun Kq hKq=>?_
 conv=>whnf
 refine hKq _ _ _ (.refl _) ?_
 clear hKq Kq
 conv=>whnf
 refine VSeq.mk fun Kq hKq=>?_
 conv=>whnf
 refine VSeq.mk fun Kq hKq=>?_
 conv=>whnf
 refine hKq _ _ _ (.refl _) ?_
 clear hKq Kq
 conv=>whnf
 have hp:=Hp.nil w0
 refine ⟨fun mm e w'=>∃ (j v:Nat),mm+j=4∧v=num2L (s.data.toList.take j)∧e=[(0,.v (.string s)),(3,.v (.int .i64 v)),(4,.v (.int .i64 j))]∧HpM [] w0 w' [],
   ⟨4,_,⟨0,0,by omega,rfl,rfl,hp⟩,sub_cons rfl (sub_cons rfl (sub_cons rfl sub_nil))⟩,?_⟩
 clear hp
 repeat clear hp
 rintro mm _ w ⟨j,v,hmm,hv,rfl,hp⟩
 have hlt4:=num2L_lt s.data.toList j (by omega)
 rw [← hv] at hlt4
 conv=>whnf
 refine VSeq.mk fun Kq hKq=>?_
 conv=>whnf
 refine VSeq.mk fun Kq hKq=>?_
 conv=>whnf
 refine hKq _ _ _ (.refl _) ?_
 clear hKq Kq
 conv=>whnf
 refine ⟨fun hlt=>?_,fun hlt=>?_⟩
 ·have hlt:=of_decide_eq_true hlt
  conv=>whnf
  refine hKq _ _ _ (.refl _) ?_
  clear hKq Kq
  conv=>whnf
  refine VSeq.mk fun Kq hKq=>?_
  conv=>whnf
  have hj:j < 4:=by omega
  have hp3:256 ^ j≤256 ^ 3:=Nat.pow_le_pow_right (by decide) (by omega)
  have hv3:v < 16777216:=Nat.lt_of_lt_of_le hlt4 hp3
  have hst:=num2L_take s.data.toList j (by omega)
  rw [← hv] at hst
  have hb:=byt_lt s j
  first | refine Or.inl (And.intro (by omega) ?_) | refine And.intro (by omega) ?_
  conv=>whnf
  refine ⟨j,⟨by first | rfl | omega,by omega⟩,?_⟩
  conv=>whnf
  refine Or.inl (And.intro (by omega) ?_)
  conv=>whnf
  refine Or.inl (And.intro (by omega) ?_)
  conv=>whnf
  refine hKq _ _ _ (.refl _) ?_
  clear hKq Kq
  conv=>whnf
  refine Or.inl (And.intro (by omega) ?_)
  conv=>whnf
  exact ⟨mm - 1,_,by omega,⟨j+1,256 * v+byt s j,by omega,hst.symm,rfl,hp⟩,sub_cons rfl (sub_cons rfl (sub_cons rfl sub_nil))⟩
 ·have hlt:=of_decide_eq_false hlt
  conv=>whnf
  clear hKq Kq
  refine hKq _ _ _ (.refl _) ?_
  clear hKq Kq
  conv=>whnf
  refine VSeq.mk fun Kq hKq=>?_
  conv=>whnf
  refine hKq _ _ _ (.refl _) ?_
  clear hKq Kq
  conv=>whnf
  obtain rfl:j=4:=by omega
  rw [List.take_of_length_le (by omega)] at hv
  rw [hv]
  exact ⟨rfl,hp.ext⟩
def putJ (x:Nat):Nat→List UInt8
 | 0=>[]
 | i+1=>UInt8.ofNat (x / 256 ^ i) :: putJ x i
theorem putJ_len (x:Nat):∀ i,(putJ x i).length=i
 | 0=>rfl
 | i+1=>by rw [putJ,List.length_cons,putJ_len x i]
theorem putJ_4 (x:Nat):putJ x 4=out4 x:=by
 show [_,_,_,UInt8.ofNat (x / 1)]=_
 rw [Nat.div_one]
 rfl
theorem putJ_8 (x:Nat):putJ x 8=be8 x:=rfl
set_option maxHeartbeats 1600000 in
theorem Put_p (x:Nat) (hx4:x < M32):PureF Tryz.prog 87 #[.int .i64 4,.int .i64 x] (.string ⟨(out4 x).toArray⟩):=by
 have hx4:x < 4294967296:=hx4
 first | refine v_pure TTok FFok Tryz.func87 rfl rfl fun w0=>?_ | refine v_pure (args:=[]) TTok FFok Tryz.func87 rfl rfl fun w0=>?_
 conv=>whnf
 refine VSeq.mk fun Kq hKq=>?_
 conv=>whnf
 refine hKq _ _ _ (.refl _) ?_
 clear hKq Kq
 conv=>whnf
 refine VSeq.mk fun Kq hKq=>?_
 conv=>whnf
 refine hKq _ _ _ (.refl _) ?_
 clear hKq Kq
 conv=>whnf
 refine VSeq.mk fun Kq hKq=>?_
 conv=>whnf
 refine VSeq.mk fun Kq hKq=>?_
 conv=>whnf
 refine hKq _ _ _ (.refl _) ?_
 clear hKq Kq
 conv=>whnf
 have hp:=Hp.nil w0
 refine ⟨fun mm e w'=>∃ (j y:Nat),mm+j=4∧y=x / 256 ^ j∧e=[(0,.v (.int .i64 4)),(1,.v (.int .i64 y)),(5,.v (.string ⟨(putJ x j).toArray⟩)),(6,.v (.int .i64 j))]∧HpM [] w0 w' [],
   ⟨4,_,⟨0,x,by omega,by rw [Nat.pow_zero,Nat.div_one],rfl,hp⟩,sub_cons rfl (sub_cons rfl (sub_cons rfl (sub_cons rfl sub_nil)))⟩,?_⟩
 clear hp
 repeat clear hp
 rintro mm _ w ⟨j,y,hmm,hy,rfl,hp⟩
 have hle:x / 256 ^ j≤x:=Nat.div_le_self _ _
 rw [← hy] at hle
 conv=>whnf
 refine VSeq.mk fun Kq hKq=>?_
 conv=>whnf
 refine VSeq.mk fun Kq hKq=>?_
 conv=>whnf
 refine hKq _ _ _ (.refl _) ?_
 clear hKq Kq
 conv=>whnf
 refine ⟨fun hlt=>?_,fun hlt=>?_⟩
 ·have hlt:=of_decide_eq_true hlt
  conv=>whnf
  refine hKq _ _ _ (.refl _) ?_
  clear hKq Kq
  conv=>whnf
  refine VSeq.mk fun Kq hKq=>?_
  conv=>whnf
  refine VSeq.mk fun Kq hKq=>?_
  conv=>whnf
  refine And.intro (by omega) ?_
  conv=>whnf
  rw [show ((y:Nat):Int) % 256 % 256=(((UInt8.ofNat y).toNat:Nat):Int) by rw [← u8_cast]; omega]
  refine hp.kmade (bytesV [UInt8.ofNat y]) 5 (fun b=>.slice (some ⟨b,0,none⟩) 1 1) (by kernel_rfl) fun tb w hp hx=>?_
  conv=>whnf
  refine ⟨_,_,Blk.str (l:=[UInt8.ofNat y]) (hp.get (i:=0) rfl) TTok rfl rfl rfl rfl rfl,?_⟩
  conv=>whnf
  have hsz:(⟨(putJ x j).toArray⟩:ByteArray).size=j:=by rw [bA_size,putJ_len]
  refine And.intro (by rw [hsz]; show 1+j≤_; omega) ?_
  conv=>whnf
  refine hKq _ _ _ (.refl _) ?_
  clear hKq Kq
  conv=>whnf
  refine And.intro (by omega) ?_
  conv=>whnf
  refine hKq _ _ _ (.refl _) ?_
  clear hKq Kq
  conv=>whnf
  refine Or.inl (And.intro (by omega) ?_)
  conv=>whnf
  have hS:(⟨#[UInt8.ofNat y]⟩:ByteArray)++⟨(putJ x j).toArray⟩=⟨(putJ x (j+1)).toArray⟩:=by
   apply ba_eq
   rw [ByteArray.toList_data_append,hy]
   rfl
  rw [hS]
  exact ⟨mm - 1,_,by omega,⟨j+1,y / 256,by omega,by rw [hy,Nat.div_div_eq_div_mul,Nat.pow_succ],rfl,hp.tail⟩,sub_cons rfl (sub_cons rfl (sub_cons rfl (sub_cons rfl sub_nil)))⟩
 ·have hlt:=of_decide_eq_false hlt
  conv=>whnf
  clear hKq Kq
  refine hKq _ _ _ (.refl _) ?_
  clear hKq Kq
  conv=>whnf
  refine VSeq.mk fun Kq hKq=>?_
  conv=>whnf
  refine hKq _ _ _ (.refl _) ?_
  clear hKq Kq
  conv=>whnf
  obtain rfl:j=4:=by omega
  rw [putJ_4]
  exact ⟨rfl,hp.ext⟩
set_option maxHeartbeats 1600000 in
theorem octets_c {W:World} {v:Value} (h:List Nat) (hv:SLv W v (kw .i64 h)) (hm:∀ x∈h,x < M32) (hl:h.length=8) :
  Calls Tryz.prog 171 #[v] W fun e w'=>e = .returned (.string ⟨(outW h).toArray⟩)∧Ext W w':=by
 obtain ⟨p,c,rfl⟩:=hv.shape
 have hlk:(kw .i64 h).length=8:=by rw [kw_len,hl]
 refine v_reads TTok FFok Tryz.func171 rfl rfl ?_
 conv=>whnf
 refine VSeq.mk fun Kq hKq=>?_
 conv=>whnf
 refine hKq _ _ _ (.refl _) ?_
 clear hKq Kq
 conv=>whnf
 refine VSeq.mk fun Kq hKq=>?_
 conv=>whnf
 refine hKq _ _ _ (.refl _) ?_
 clear hKq Kq
 conv=>whnf
 refine VSeq.mk fun Kq hKq=>?_
 conv=>whnf
 refine VSeq.mk fun Kq hKq=>?_
 conv=>whnf
 refine hKq _ _ _ (.refl _) ?_
 clear hKq Kq
 conv=>whnf
 have hp:=Hp.nil W
 refine ⟨fun mm e w'=>∃ (j:Nat),mm+j=8∧e=[(0,.v (.slice p (kw .i64 h).length c)),(3,.v (.string ⟨(outW (h.take j)).toArray⟩)),(4,.v (.int .i64 j))]∧HpM [] W w' [],
   ⟨8,_,⟨0,by omega,rfl,hp⟩,sub_cons rfl (sub_cons rfl (sub_cons rfl sub_nil))⟩,?_⟩
 clear hp
 repeat clear hp
 rintro mm _ w ⟨j,hmm,rfl,hp⟩
 conv=>whnf
 refine VSeq.mk fun Kq hKq=>?_
 conv=>whnf
 refine VSeq.mk fun Kq hKq=>?_
 conv=>whnf
 refine hKq _ _ _ (.refl _) ?_
 clear hKq Kq
 conv=>whnf
 refine ⟨fun hlt=>?_,fun hlt=>?_⟩
 ·have hlt:=of_decide_eq_true hlt
  conv=>whnf
  refine hKq _ _ _ (.refl _) ?_
  clear hKq Kq
  conv=>whnf
  refine VSeq.mk fun Kq hKq=>?_
  conv=>whnf
  have hj:j < h.length:=by omega
  have hx4:h.getD j 0 < M32:=getD_lt32 hm j
  have htk:=outW_take h j hj
  have hgk:(kw .i64 h)[j]? = some (.int .i64 ((h.getD j 0:Nat):Int)):=by
   refine kw_get ?_
   rw [List.getD_eq_getElem?_getD,List.getElem?_eq_getElem hj]; rfl
  obtain ⟨g,off,rfl,c1⟩:=hv.at hgk
  refine ⟨j,⟨by first | rfl | omega,by omega⟩,?_⟩
  conv=>whnf
  refine ⟨_,_,run_ld TTok rfl (by rw [addM_eq,Nat.mul_one]; exact Ext.cell hp.ext c1),?_⟩
  conv=>whnf
  refine PureF.use (Put_p (h.getD j 0) hx4) fun w hx=>?_
  try (have hp:=hp.call hx)
  conv=>whnf
  have hsz:(⟨(outW (h.take j)).toArray⟩:ByteArray).size=4 * j:=by rw [bA_size,outW_len,List.length_take]; omega
  refine And.intro (by rw [hsz]; show 4 * j+4≤_; omega) ?_
  conv=>whnf
  refine hKq _ _ _ (.refl _) ?_
  clear hKq Kq
  conv=>whnf
  refine Or.inl (And.intro (by omega) ?_)
  conv=>whnf
  have hS:(⟨(outW (h.take j)).toArray⟩:ByteArray)++⟨(out4 (h.getD j 0)).toArray⟩=⟨(outW (h.take (j+1))).toArray⟩:=by
   apply ba_eq
   rw [ByteArray.toList_data_append,htk]
  rw [hS]
  exact ⟨mm - 1,_,by omega,⟨j+1,by omega,rfl,hp⟩,sub_cons rfl (sub_cons rfl (sub_cons rfl sub_nil))⟩
 ·have hlt:=of_decide_eq_false hlt
  conv=>whnf
  clear hKq Kq
  refine hKq _ _ _ (.refl _) ?_
  clear hKq Kq
  conv=>whnf
  refine VSeq.mk fun Kq hKq=>?_
  conv=>whnf
  refine hKq _ _ _ (.refl _) ?_
  clear hKq Kq
  conv=>whnf
  rw [List.take_of_length_le (by omega)]
  exact ⟨rfl,hp.ext⟩
set_option maxHeartbeats 1600000 in
theorem closing_p (left:ByteArray) (n:Nat) (hl:left.size < 64) (hn:n≤1099511627776):PureF Tryz.prog 173 #[.string left,.int .i64 n] (.string ⟨(left.data.toList++closing left.size n).toArray⟩):=by
 first | refine v_pure TTok FFok Tryz.func173 rfl rfl fun w0=>?_ | refine v_pure (args:=[]) TTok FFok Tryz.func173 rfl rfl fun w0=>?_
 conv=>whnf
 refine VSeq.mk fun Kq hKq=>?_
 conv=>whnf
 refine hKq _ _ _ (.refl _) ?_
 clear hKq Kq
 conv=>whnf
 refine VSeq.mk fun Kq hKq=>?_
 conv=>whnf
 have hp:=Hp.nil w0
 refine hp.kmade (bytesV [128]) 5 (fun b=>.slice (some ⟨b,0,none⟩) 1 1) (by kernel_rfl) fun tb w hp hx=>?_
 conv=>whnf
 refine ⟨_,_,Blk.str (l:=[128]) (hp.get (i:=0) rfl) TTok rfl rfl rfl rfl rfl,?_⟩
 conv=>whnf
 refine And.intro (by show left.size+1≤_; omega) ?_
 conv=>whnf
 refine hKq _ _ _ (.refl _) ?_
 clear hKq Kq
 conv=>whnf
 refine VSeq.mk fun Kq hKq=>?_
 conv=>whnf
 obtain ⟨Z,hZ⟩:∃ Z,(119 - left.size) % 64=Z:=⟨_,rfl⟩
 have hZl:Z < 64:=by omega
 have hsz:∀ j,(⟨(left.data.toList++128 :: List.replicate j 0).toArray⟩:ByteArray).size=left.size+1+j:=fun j=>by
  rw [bA_size,List.length_append,List.length_cons,List.length_replicate,toList_len]; omega
 have hS0:left++⟨#[128]⟩=⟨(left.data.toList++128 :: List.replicate 0 0).toArray⟩:=by
  apply ba_eq
  rw [ByteArray.toList_data_append]
  rfl
 rw [hS0]
 have hp:HpM [] w0 w []:=hp.tail
 refine ⟨fun mm e w'=>∃ (j:Nat),mm+j=Z∧e=[(1,.v (.int .i64 n)),(5,.v (.string ⟨(left.data.toList++128 :: List.replicate j 0).toArray⟩))]∧HpM [] w0 w' [],
   ⟨Z,_,⟨0,by omega,rfl,hp⟩,sub_cons rfl (sub_cons rfl sub_nil)⟩,?_⟩
 clear hp hx
 repeat clear hp
 rintro mm _ w ⟨j,hmm,rfl,hp⟩
 have hsj:=hsz j
 conv=>whnf
 refine VSeq.mk fun Kq hKq=>?_
 conv=>whnf
 refine VSeq.mk fun Kq hKq=>?_
 conv=>whnf
 refine And.intro (by omega) ?_
 conv=>whnf
 refine hKq _ _ _ (.refl _) ?_
 clear hKq Kq
 conv=>whnf
 rw [hsj]
 refine ⟨fun hlt=>?_,fun hlt=>?_⟩
 ·have hlt:=of_decide_eq_true hlt
  conv=>whnf
  refine hKq _ _ _ (.refl _) ?_
  clear hKq Kq
  conv=>whnf
  have hjZ:j < Z:=by omega
  refine hp.kmade (bytesV [0]) 5 (fun b=>.slice (some ⟨b,0,none⟩) 1 1) (by kernel_rfl) fun tb w hp hx=>?_
  conv=>whnf
  refine ⟨_,_,Blk.str (l:=[0]) (hp.get (i:=0) rfl) TTok rfl rfl rfl rfl rfl,?_⟩
  conv=>whnf
  refine And.intro (by rw [hsj]; show left.size+1+j+1≤_; omega) ?_
  conv=>whnf
  have hS:(⟨(left.data.toList++128 :: List.replicate j 0).toArray⟩:ByteArray)++⟨#[0]⟩=⟨(left.data.toList++128 :: List.replicate (j+1) 0).toArray⟩:=by
   apply ba_eq
   rw [ByteArray.toList_data_append,List.replicate_succ']
   show (left.data.toList++128 :: List.replicate j 0)++[0]=_
   rw [List.append_assoc]
   rfl
  rw [hS]
  exact ⟨mm - 1,_,by omega,⟨j+1,by omega,rfl,hp.tail⟩,sub_cons rfl (sub_cons rfl sub_nil)⟩
 ·have hlt:=of_decide_eq_false hlt
  conv=>whnf
  clear hKq Kq
  refine hKq _ _ _ (.refl _) ?_
  clear hKq Kq
  conv=>whnf
  refine VSeq.mk fun Kq hKq=>?_
  conv=>whnf
  refine Or.inl (And.intro (by omega) ?_)
  conv=>whnf
  refine hKq _ _ _ (.refl _) ?_
  clear hKq Kq
  conv=>whnf
  refine VSeq.mk fun Kq hKq=>?_
  conv=>whnf
  refine hKq _ _ _ (.refl _) ?_
  clear hKq Kq
  conv=>whnf
  refine VSeq.mk fun Kq hKq=>?_
  conv=>whnf
  refine VSeq.mk fun Kq hKq=>?_
  conv=>whnf
  refine hKq _ _ _ (.refl _) ?_
  clear hKq Kq
  conv=>whnf
  have hjZ:j=Z:=by omega
  have hpz:(⟨(left.data.toList++128 :: List.replicate j 0).toArray⟩:ByteArray).size≤128:=by rw [hsj]; omega
  have hfin:(⟨(left.data.toList++128 :: List.replicate j 0).toArray⟩:ByteArray)++⟨(be8 (n * 8)).toArray⟩=⟨(left.data.toList++closing left.size n).toArray⟩:=by
   apply ba_eq
   rw [ByteArray.toList_data_append]
   unfold closing
   rw [hZ,hjZ]
   show (left.data.toList++128 :: List.replicate Z 0)++be8 (n * 8)=_
   rw [List.append_assoc]
   rfl
  obtain ⟨S,hS⟩:∃ S:ByteArray,⟨(left.data.toList++128 :: List.replicate j 0).toArray⟩=S:=⟨_,rfl⟩
  rw [hS] at hpz hfin ⊢
  clear hsj hsz hS hlt hmm hS0
  obtain ⟨x,hx8⟩:∃ x,n * 8=x:=⟨_,rfl⟩
  have hxl:x≤8796093022208:=by omega
  rw [show (8:Int) * ((n:Nat):Int)=((x:Nat):Int) by omega]
  rw [hx8,← putJ_8] at hfin
  refine ⟨fun mm e w'=>∃ (j y:Nat),mm+j=8∧y=x / 256 ^ j∧e=[(5,.v (.string S)),(6,.v (.int .i64 y)),(7,.v (.string ⟨(putJ x j).toArray⟩)),(8,.v (.int .i64 j))]∧HpM [] w0 w' [],
   ⟨8,_,⟨0,x,by omega,by rw [Nat.pow_zero,Nat.div_one],rfl,hp⟩,sub_cons rfl (sub_cons rfl (sub_cons rfl (sub_cons rfl sub_nil)))⟩,?_⟩
  clear hp
  repeat clear hp
  rintro mm _ w ⟨j,y,hmm,hy,rfl,hp⟩
  have hle:x / 256 ^ j≤x:=Nat.div_le_self _ _
  rw [← hy] at hle
  conv=>whnf
  refine VSeq.mk fun Kq hKq=>?_
  conv=>whnf
  refine VSeq.mk fun Kq hKq=>?_
  conv=>whnf
  refine hKq _ _ _ (.refl _) ?_
  clear hKq Kq
  conv=>whnf
  refine ⟨fun hlt=>?_,fun hlt=>?_⟩
  ·have hlt:=of_decide_eq_true hlt
   conv=>whnf
   refine hKq _ _ _ (.refl _) ?_
   clear hKq Kq
   conv=>whnf
   refine VSeq.mk fun Kq hKq=>?_
   conv=>whnf
   refine VSeq.mk fun Kq hKq=>?_
   conv=>whnf
   refine And.intro (by omega) ?_
   conv=>whnf
   rw [show ((y:Nat):Int) % 256 % 256=(((UInt8.ofNat y).toNat:Nat):Int) by rw [← u8_cast]; omega]
   refine hp.kmade (bytesV [UInt8.ofNat y]) 5 (fun b=>.slice (some ⟨b,0,none⟩) 1 1) (by kernel_rfl) fun tb w hp hx=>?_
   conv=>whnf
   refine ⟨_,_,Blk.str (l:=[UInt8.ofNat y]) (hp.get (i:=0) rfl) TTok rfl rfl rfl rfl rfl,?_⟩
   conv=>whnf
   have hsz:(⟨(putJ x j).toArray⟩:ByteArray).size=j:=by rw [bA_size,putJ_len]
   refine And.intro (by rw [hsz]; show 1+j≤_; omega) ?_
   conv=>whnf
   refine hKq _ _ _ (.refl _) ?_
   clear hKq Kq
   conv=>whnf
   refine And.intro (by omega) ?_
   conv=>whnf
   refine hKq _ _ _ (.refl _) ?_
   clear hKq Kq
   conv=>whnf
   refine Or.inl (And.intro (by omega) ?_)
   conv=>whnf
   have hS:(⟨#[UInt8.ofNat y]⟩:ByteArray)++⟨(putJ x j).toArray⟩=⟨(putJ x (j+1)).toArray⟩:=by
    apply ba_eq
    rw [ByteArray.toList_data_append,hy]
    rfl
   rw [hS]
   exact ⟨mm - 1,_,by omega,⟨j+1,y / 256,by omega,by rw [hy,Nat.div_div_eq_div_mul,Nat.pow_succ],rfl,hp.tail⟩,sub_cons rfl (sub_cons rfl (sub_cons rfl (sub_cons rfl sub_nil)))⟩
  ·have hlt:=of_decide_eq_false hlt
   conv=>whnf
   clear hKq Kq
   refine hKq _ _ _ (.refl _) ?_
   clear hKq Kq
   conv=>whnf
   refine VSeq.mk fun Kq hKq=>?_
   conv=>whnf
   obtain rfl:j=8:=by omega
   have hsz8:(⟨(putJ x 8).toArray⟩:ByteArray).size=8:=by rw [bA_size,putJ_len]
   refine And.intro (by rw [hsz8]; omega) ?_
   conv=>whnf
   refine hKq _ _ _ (.refl _) ?_
   clear hKq Kq
   conv=>whnf
   rw [hfin]
   exact ⟨rfl,hp.ext⟩
end Go.Proofs.YtmlmfmdmomegpaaGreatDoor
