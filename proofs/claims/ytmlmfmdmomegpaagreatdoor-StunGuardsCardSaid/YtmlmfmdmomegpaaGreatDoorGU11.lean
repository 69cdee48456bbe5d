/- Chapter 02: the reference mixes a block in. -/
/- Chapter 02: the reference's digests. -/
/- Chapter 02: the reference's codes and derived octets. -/
/- Chapter 02: the reference's constants. -/
/- Chapter 02: the reference's table of constants. -/
/- Chapter 06: the reference: bits, coefficients, rest, number, More, Crc, half, Join, Right. -/
import Derived.Test.YtmlmfmdmomegpaaGreatDoorGU10
import Derived.Test.YtmlmfmdmomegpaaGreatDoorGU06
namespace Go.Proofs.YtmlmfmdmomegpaaGreatDoor
set_option linter.unusedSimpArgs false
set_option linter.unusedVariables false
set_option maxRecDepth 100000
open Go.RowKit V
theorem getk {k:IntKind} {L:List Nat} {i:Nat} (h:i < L.length):(kw k L)[i]? = some (.int k ((L.getD i 0:Nat):Int)):=by
 refine kw_get ?_
 rw [List.getD_eq_getElem?_getD,List.getElem?_eq_getElem h]; rfl
theorem sched_ps (y:Nat) (hy:y < M32):PureF Tryz.prog 197 #[wV y,.int .i64 7] (wV (rotl y 25))∧PureF Tryz.prog 197 #[wV y,.int .i64 18] (wV (rotl y 14))∧PureF Tryz.prog 198 #[wV y,.int .i64 3] (wV (y / 8)) ∧
  PureF Tryz.prog 196 #[wV (rotl y 25),wV (rotl y 14),wV (y / 8)] (wV (sg0 y))∧PureF Tryz.prog 195 #[wV (sg0 y)] (.int .i64 (sg0 y)) :=
 ⟨turned_p y 7 hy (by decide) (by decide),turned_p y 18 hy (by decide) (by decide),moved_raw y 3 (by decide) hy,three_p _ _ _,value_p _ (sg0_lt hy)⟩
theorem sched_qs (y:Nat) (hy:y < M32):PureF Tryz.prog 197 #[wV y,.int .i64 17] (wV (rotl y 15))∧PureF Tryz.prog 197 #[wV y,.int .i64 19] (wV (rotl y 13))∧PureF Tryz.prog 198 #[wV y,.int .i64 10] (wV (y / 1024)) ∧
  PureF Tryz.prog 196 #[wV (rotl y 15),wV (rotl y 13),wV (y / 1024)] (wV (sg1 y))∧PureF Tryz.prog 195 #[wV (sg1 y)] (.int .i64 (sg1 y)) :=
 ⟨turned_p y 17 hy (by decide) (by decide),turned_p y 19 hy (by decide) (by decide),moved_raw y 10 (by decide) hy,three_p _ _ _,value_p _ (sg1_lt hy)⟩
theorem one_ps (e f g:Nat) (he:e < M32) (hf:f < M32) (hg:g < M32):(PureF Tryz.prog 197 #[wV e,.int .i64 6] (wV (rotl e 26))∧PureF Tryz.prog 197 #[wV e,.int .i64 11] (wV (rotl e 21))∧PureF Tryz.prog 197 #[wV e,.int .i64 25] (wV (rotl e 7)) ∧
  PureF Tryz.prog 196 #[wV (rotl e 26),wV (rotl e 21),wV (rotl e 7)] (wV (bs1 e))∧PureF Tryz.prog 195 #[wV (bs1 e)] (.int .i64 (bs1 e))) ∧
  (PureF Tryz.prog 200 #[wV e,wV f] (wV (e &&& f))∧PureF Tryz.prog 201 #[wV e] (wV (4294967295 - e))∧PureF Tryz.prog 200 #[wV (4294967295 - e),wV g] (wV ((4294967295 - e) &&& g)) ∧
  PureF Tryz.prog 199 #[wV (e &&& f),wV ((4294967295 - e) &&& g)] (wV (chf e f g))∧PureF Tryz.prog 195 #[wV (chf e f g)] (.int .i64 (chf e f g))) :=
 ⟨⟨turned_p e 6 he (by decide) (by decide),turned_p e 11 he (by decide) (by decide),turned_p e 25 he (by decide) (by decide),three_p _ _ _,value_p _ (bs1_lt he)⟩,and_p _ _,not_p _ he,and_p _ _,xor_p _ _,value_p _ (chf_lt he hg)⟩
theorem two_ps (a b c:Nat) (ha:a < M32) (hb:b < M32):(PureF Tryz.prog 197 #[wV a,.int .i64 2] (wV (rotl a 30))∧PureF Tryz.prog 197 #[wV a,.int .i64 13] (wV (rotl a 19))∧PureF Tryz.prog 197 #[wV a,.int .i64 22] (wV (rotl a 10)) ∧
  PureF Tryz.prog 196 #[wV (rotl a 30),wV (rotl a 19),wV (rotl a 10)] (wV (bs0 a))∧PureF Tryz.prog 195 #[wV (bs0 a)] (.int .i64 (bs0 a))) ∧
  (PureF Tryz.prog 200 #[wV a,wV b] (wV (a &&& b))∧PureF Tryz.prog 200 #[wV a,wV c] (wV (a &&& c))∧PureF Tryz.prog 200 #[wV b,wV c] (wV (b &&& c)) ∧
  PureF Tryz.prog 196 #[wV (a &&& b),wV (a &&& c),wV (b &&& c)] (wV (maj a b c))∧PureF Tryz.prog 195 #[wV (maj a b c)] (.int .i64 (maj a b c))) :=
 ⟨⟨turned_p a 2 ha (by decide) (by decide),turned_p a 13 ha (by decide) (by decide),turned_p a 22 ha (by decide) (by decide),three_p _ _ _,value_p _ (bs0_lt ha)⟩,and_p _ _,and_p _ _,and_p _ _,three_p _ _ _,value_p _ (maj_lt ha hb)⟩
set_option maxHeartbeats 6400000 in
theorem Mixed_c {W:World} {tS tK hs:Value} (h:List Nat) (b:ByteArray) {nS:List Value} (hS:SLv W tS nS) (hK:SLv W tK (kw .i64 KL)) (hh:SLv W hs (kw .i64 h)) (h8:W8 h) (hb:b.size=64) :
  Calls Tryz.prog 186 #[.agg #[tS,tK],hs,.string b] W fun e w'=>∃ v,e = .returned v∧SLv w' v (kw .i64 (mix1 KL h b.data.toList))∧Ext W w':=by
 obtain ⟨pS,cS,rfl⟩:=hS.shape
 obtain ⟨pK,cK,rfl⟩:=hK.shape
 obtain ⟨ph,ch,rfl⟩:=hh.shape
 have hBl:=toList_len b
 obtain ⟨B,hB⟩:∃ B,b.data.toList=B:=⟨_,rfl⟩
 rw [hB] at hBl ⊢
 have hwl:=wsch_len B
 have hwm:=wsch_lt B
 refine v_fn (args:=[.agg #[.slice pS nS.length cS,.slice pK (kw .i64 KL).length cK],.slice ph (kw .i64 h).length ch,.string b]) TTok FFok Tryz.func186 rfl (Nat.le_of_ble_eq_true rfl) ?_
 conv=>whnf
 refine VSeq.mk fun Kq hKq=>?_
 conv=>whnf
 have hp:=Hp.nil W
 refine hp.kbox ([.slice pS nS.length cS,.slice pK (kw .i64 KL).length cK]) rfl fun qt w hp hx=>?_
 conv=>whnf
 refine hKq _ _ _ (.refl _) ?_
 clear hKq Kq
 conv=>whnf
 refine VSeq.mk fun Kq hKq=>?_
 conv=>whnf
 refine hKq _ _ _ (.refl _) ?_
 clear hKq Kq
 conv=>whnf
 refine VSeq.mk fun Kq hKq=>?_
 conv=>whnf
 refine VSeq.mk fun Kq hKq=>?_
 conv=>whnf
 refine hKq _ _ _ (.refl _) ?_
 clear hKq Kq
 conv=>whnf
 have hp:=hp.knil 3 1
 have hp:HpM [] W w [row 3 1 (.slice none 0 0) 0 (kw .i64 (wsch B 0)),blk qt [.slice pS nS.length cS,.slice pK (kw .i64 KL).length cK] 105]:=hp
 conv=>whnf
 refine ⟨fun mm e w'=>∃ (i:Nat) (v:Value),mm+i=64∧e=[(1,.v (.slice ph (kw .i64 h).length ch)),(2,.v (.string b)),(3,.v (.pointer (some ⟨qt,0,none⟩))),(7,.v v),(8,.v (.int .i64 i))]∧HpM [] W w' [row 3 1 v i (kw .i64 (wsch B i)),blk qt [.slice pS nS.length cS,.slice pK (kw .i64 KL).length cK] 105],
   ⟨64,_,⟨0,_,by omega,rfl,hp⟩,sub_cons rfl (sub_cons rfl (sub_cons rfl (sub_cons rfl (sub_cons rfl sub_nil))))⟩,?_⟩
 clear hp hx
 repeat clear hp
 rintro mm _ w ⟨i,v,hmm,rfl,hp⟩
 conv=>whnf
 refine VSeq.mk fun Kq hKq=>?_
 conv=>whnf
 refine VSeq.mk fun Kq hKq=>?_
 conv=>whnf
 refine hKq _ _ _ (.refl _) ?_
 clear hKq Kq
 conv=>whnf
 refine ⟨fun hlt=>?_,fun hlt=>?_⟩
 ·have hlt:=of_decide_eq_true hlt
  conv=>whnf
  refine hKq _ _ _ (.refl _) ?_
  clear hKq Kq
  conv=>whnf
  refine VSeq.mk fun Kq hKq=>?_
  conv=>whnf
  refine VSeq.mk fun Kq hKq=>?_
  conv=>whnf
  refine VSeq.mk fun Kq hKq=>?_
  conv=>whnf
  refine hKq _ _ _ (.refl _) ?_
  clear hKq Kq
  conv=>whnf
  have hi:i < 64:=by omega
  refine ⟨fun h16=>?_,fun h16=>?_⟩
  ·have h16:=of_decide_eq_true h16
   conv=>whnf
   refine VSeq.mk fun Kq hKq=>?_
   conv=>whnf
   refine Or.inl (And.intro (by omega) ?_)
   conv=>whnf
   refine Or.inl (And.intro (by omega) ?_)
   conv=>whnf
   refine Or.inl (And.intro (by omega) ?_)
   conv=>whnf
   have hi16:i < 16:=by omega
   have hnx:wnext B (wsch B i) i=be4 B (4 * i):=if_pos hi16
   have hN:=Number_p (b.extract (4 * i) (4 * i+4)) (by rw [size_extract _ _ _ (by omega)]; omega)
   have hNl:(b.extract (4 * i) (4 * i+4)).data.toList=(B.drop (4 * i)).take 4:=by rw [ext_list,hB,show 4 * i+4 - 4 * i=4 by omega]
   rw [hNl,numL_be4 B (4 * i) (by omega),← hnx] at hN
   refine ⟨4 * i,4 * i+4,⟨by first | rfl | omega,by first | rfl | omega,by omega,by omega⟩,?_⟩
   conv=>whnf
   refine PureF.use (hN) fun w hx=>?_
   try (have hp:=hp.call hx)
   conv=>whnf
   refine hp.kmade (kw .i64 [wnext B (wsch B i) i]) 3 (fun b=>.slice (some ⟨b,0,none⟩) 1 1) (by kernel_rfl) fun tb w hp hx=>?_
   conv=>whnf
   refine hp.kapp sl48 1 rfl (Blk.src TTok (hp.get (i:=0) rfl) rfl rfl (kw_one _ _)) (by omega) (by unfold maxLen; omega) fun v' w hp=>?_
   simp only [List.set_cons_zero,List.set_cons_succ] at hp
   rw [← kw_app] at hp
   conv=>whnf
   refine hKq _ _ _ (.refl _) ?_
   clear hKq Kq
   conv=>whnf
   clear hKq Kq
   refine hKq _ _ _ (.refl _) ?_
   clear hKq Kq
   conv=>whnf
   refine Or.inl (And.intro (by omega) ?_)
   conv=>whnf
   exact ⟨mm - 1,_,by omega,⟨i+1,v',by omega,rfl,hp.tail⟩,sub_cons rfl (sub_cons rfl (sub_cons rfl (sub_cons rfl (sub_cons rfl sub_nil))))⟩
  ·have h16:=of_decide_eq_false h16
   conv=>whnf
   refine hKq _ _ _ (.refl _) ?_
   clear hKq Kq
   conv=>whnf
   refine VSeq.mk fun Kq hKq=>?_
   conv=>whnf
   have hi16:16≤i:=by omega
   have hnx:wnext B (wsch B i) i=((wsch B i).getD (i - 16) 0+(wsch B i).getD (i - 7) 0+sg0 ((wsch B i).getD (i - 15) 0)+sg1 ((wsch B i).getD (i - 2) 0)) % M32:=if_neg (by omega)
   have hwi:=hwl i
   have hlt32:=fun k=>getD_lt32 (hwm i) k
   obtain ⟨L,hL⟩:∃ L,wsch B i=L:=⟨_,rfl⟩
   have hsucc:wsch B (i+1)=L++[wnext B L i]:=by rw [← hL]; rfl
   rw [hL] at hp hnx hwi hlt32
   have hv:=SLv.of_row (hp.get (i:=0) rfl)
   obtain ⟨p,c,rfl⟩:=hv.shape
   obtain ⟨g,off,rfl,hc15⟩:=hv.at (getk (L:=L) (i:=i - 15) (by omega))
   have hc2:=hv.get (getk (L:=L) (i:=i - 2) (by omega))
   have hc16:=hv.get (getk (L:=L) (i:=i - 16) (by omega))
   have hc7:=hv.get (getk (L:=L) (i:=i - 7) (by omega))
   have hy:=hlt32 (i - 15)
   have hz:=hlt32 (i - 2)
   have hx1:=hlt32 (i - 16)
   have hx2:=hlt32 (i - 7)
   obtain ⟨y,hyd⟩:∃ y,L.getD (i - 15) 0=y:=⟨_,rfl⟩
   obtain ⟨z,hzd⟩:∃ z,L.getD (i - 2) 0=z:=⟨_,rfl⟩
   obtain ⟨x1,hx1d⟩:∃ x,L.getD (i - 16) 0=x:=⟨_,rfl⟩
   obtain ⟨x2,hx2d⟩:∃ x,L.getD (i - 7) 0=x:=⟨_,rfl⟩
   rw [hyd] at hc15 hy hnx
   rw [hzd] at hc2 hz hnx
   rw [hx1d] at hc16 hx1 hnx
   rw [hx2d] at hc7 hx2 hnx
   obtain ⟨a1,a2,a3,a4,a5⟩:=sched_ps y hy
   obtain ⟨b1,b2,b3,b4,b5⟩:=sched_qs z hz
   have hwy:=word_p y hy
   have hwz:=word_p z hz
   have hsum:=sum_p x1 x2 (sg0 y) (sg1 z) 0 hx1 hx2 (sg0_lt hy) (sg1_lt hz) (by decide)
   rw [show x1+x2+sg0 y+sg1 z+0=x1+x2+sg0 y+sg1 z from rfl,← hnx] at hsum
   have hK:∀ (w1:World) (q9 q10:Nat),HpM [] W w1 [blk q9 (wd y) 273,blk q10 (wd z) 273,row 3 1 (.slice (some ⟨g,off,none⟩) (kw .i64 L).length c) i (kw .i64 L),blk qt [.slice pS nS.length cS,.slice pK (kw .i64 KL).length cK] 105] →
     ∀ l,V.Sub [(1,.v (.slice ph (kw .i64 h).length ch)),(2,.v (.string b)),(3,.v (.pointer (some ⟨qt,0,none⟩))),(7,.v (.slice (some ⟨g,off,none⟩) (kw .i64 L).length c)),(8,.v (.int .i64 i)),(9,.v (.pointer (some ⟨q9,0,none⟩))),(10,.v (.pointer (some ⟨q10,0,none⟩)))] l→Kq l w1:=by
    clear hp
    repeat clear hp
    intro w q9 q10 hp l hsub
    have hv:=SLv.of_row (hp.get (i:=2) rfl)
    have hd16:=hv.get (getk (L:=L) (i:=i - 16) (by omega))
    have hd7:=hv.get (getk (L:=L) (i:=i - 7) (by omega))
    rw [hx1d] at hd16
    rw [hx2d] at hd7
    refine hKq _ _ _ hsub ?_
    clear hKq Kq hsub
    conv=>whnf
    refine v_mix TTok FFok mixed 29 [(0,false),(1,false),(2,false),(3,false),(4,false),(5,false),(6,false),(7,false),(8,false),(9,false),(10,false),(11,false),(12,false),(13,false),(14,false),(15,false),(16,false),(17,false),(18,false),(19,false),(20,false),(21,false),(22,false),(23,false),(24,false),(25,false),(26,false),(27,false),(28,true)] (by kernel_rfl) ?_
    conv=>whnf
    refine Or.inl (And.intro (by omega) ?_)
    conv=>whnf
    refine ⟨i - 16,⟨by first | rfl | omega,by rw [kw_len]; omega⟩,?_⟩
    conv=>whnf
    refine ⟨_,fun w2 hx'=>run_ld TTok rfl (by rw [addM_eq,Nat.mul_one]; exact Ext.cell hx' hd16),?_⟩
    conv=>whnf
    refine Or.inl (And.intro (by omega) ?_)
    conv=>whnf
    refine ⟨i - 7,⟨by first | rfl | omega,by rw [kw_len]; omega⟩,?_⟩
    conv=>whnf
    refine ⟨_,fun w2 hx'=>run_ld TTok rfl (by rw [addM_eq,Nat.mul_one]; exact Ext.cell hx' hd7),?_⟩
    conv=>whnf
    refine ⟨_,fun w' hx'=>Blk.ldN (Blk.ext (hp.get (i:=0) rfl) hx') TTok rfl (wd_len _),?_⟩
    conv=>whnf
    first | refine PureF.quiet (a1) ?_ | refine PureF.quietE (a1) ?_
    conv=>whnf
    refine ⟨_,fun w' hx'=>Blk.ldN (Blk.ext (hp.get (i:=0) rfl) hx') TTok rfl (wd_len _),?_⟩
    conv=>whnf
    first | refine PureF.quiet (a2) ?_ | refine PureF.quietE (a2) ?_
    conv=>whnf
    refine ⟨_,fun w' hx'=>Blk.ldN (Blk.ext (hp.get (i:=0) rfl) hx') TTok rfl (wd_len _),?_⟩
    conv=>whnf
    first | refine PureF.quiet (a3) ?_ | refine PureF.quietE (a3) ?_
    conv=>whnf
    first | refine PureF.quiet (a4) ?_ | refine PureF.quietE (a4) ?_
    conv=>whnf
    first | refine PureF.quiet (a5) ?_ | refine PureF.quietE (a5) ?_
    conv=>whnf
    refine ⟨_,fun w' hx'=>Blk.ldN (Blk.ext (hp.get (i:=1) rfl) hx') TTok rfl (wd_len _),?_⟩
    conv=>whnf
    first | refine PureF.quiet (b1) ?_ | refine PureF.quietE (b1) ?_
    conv=>whnf
    refine ⟨_,fun w' hx'=>Blk.ldN (Blk.ext (hp.get (i:=1) rfl) hx') TTok rfl (wd_len _),?_⟩
    conv=>whnf
    first | refine PureF.quiet (b2) ?_ | refine PureF.quietE (b2) ?_
    conv=>whnf
    refine ⟨_,fun w' hx'=>Blk.ldN (Blk.ext (hp.get (i:=1) rfl) hx') TTok rfl (wd_len _),?_⟩
    conv=>whnf
    first | refine PureF.quiet (b3) ?_ | refine PureF.quietE (b3) ?_
    conv=>whnf
    first | refine PureF.quiet (b4) ?_ | refine PureF.quietE (b4) ?_
    conv=>whnf
    first | refine PureF.quiet (b5) ?_ | refine PureF.quietE (b5) ?_
    conv=>whnf
    first | refine PureF.quiet (hsum) ?_ | refine PureF.quietE (hsum) ?_
    conv=>whnf
    intro w hx
    try (have hp:=hp.call hx)
    conv=>whnf
    refine hp.kmade (kw .i64 [wnext B L i]) 3 (fun b=>.slice (some ⟨b,0,none⟩) 1 1) (by kernel_rfl) fun tb w hp hx=>?_
    conv=>whnf
    refine And.intro hx ?_
    conv=>whnf
    intro w hx
    try (have hp:=hp.call hx)
    conv=>whnf
    refine hp.kapp sl48 3 rfl (Blk.src TTok (hp.get (i:=0) rfl) rfl rfl (kw_one _ _)) (by omega) (by unfold maxLen; omega) fun v' w hp=>?_
    simp only [List.set_cons_zero,List.set_cons_succ] at hp
    rw [← kw_app,← hsucc] at hp
    conv=>whnf
    refine hKq _ _ _ (.refl _) ?_
    clear hKq Kq
    conv=>whnf
    refine Or.inl (And.intro (by omega) ?_)
    conv=>whnf
    exact ⟨mm - 1,_,by omega,⟨i+1,v',by omega,rfl,hp.tail.tail.tail⟩,sub_cons rfl (sub_cons rfl (sub_cons rfl (sub_cons rfl (sub_cons rfl sub_nil))))⟩
   clear hKq
   refine v_mt TTok FFok mixed 14 (.q 0 (.q 1 (.q 2 (.q 3 (.q 4 (.q 5 (.q 6 (.q 7 (.q 8 (.q 9 (.q 10 (.q 11 (.br 12 13 (.m 13 .nil) (.m 12 .nil)))))))))))))) (by kernel_rfl) ?_
   conv=>whnf
   refine Or.inl (And.intro (by omega) ?_)
   conv=>whnf
   refine ⟨i - 15,⟨by first | rfl | omega,by rw [kw_len]; omega⟩,?_⟩
   conv=>whnf
   refine ⟨_,fun w2 hx'=>run_ld TTok rfl (by rw [addM_eq,Nat.mul_one]; exact Ext.cell hx' hc15),?_⟩
   conv=>whnf
   first | refine PureF.quiet (hwy) ?_ | refine PureF.quietE (hwy) ?_
   conv=>whnf
   refine Or.inl (And.intro (by omega) ?_)
   conv=>whnf
   refine ⟨i - 2,⟨by first | rfl | omega,by rw [kw_len]; omega⟩,?_⟩
   conv=>whnf
   refine ⟨_,fun w2 hx'=>run_ld TTok rfl (by rw [addM_eq,Nat.mul_one]; exact Ext.cell hx' hc2),?_⟩
   conv=>whnf
   first | refine PureF.quiet (hwz) ?_ | refine PureF.quietE (hwz) ?_
   conv=>whnf
   refine And.intro ?_ ?_
   ·intro w hx
    try (have hp:=hp.call hx)
    conv=>whnf
    refine hp.kalloc z273 fun r1 w hp hx=>?_
    conv=>whnf
    refine And.intro hx ?_
    conv=>whnf
    intro w hx
    try (have hp:=hp.call hx)
    conv=>whnf
    refine hp.kalloc z273 fun r2 w hp hx=>?_
    conv=>whnf
    refine And.intro hx ?_
    conv=>whnf
    intro w hx
    try (have hp:=hp.call hx)
    conv=>whnf
    refine hp.kstA TTok rfl 1 rfl (wd_len _) (wd_one _) (by rfl) fun w hp=>?_
    try simp only [List.set_cons_zero,List.set_cons_succ,EV.val] at hp
    conv=>whnf
    refine hp.kstA TTok rfl 0 rfl (wd_len _) (wd_one _) (by rfl) fun w hp=>?_
    try simp only [List.set_cons_zero,List.set_cons_succ,EV.val] at hp
    conv=>whnf
    exact hK _ _ _ (hp.pick [1,0,2,3] (by decide)) _ (sub_cons rfl (sub_cons rfl (sub_cons rfl (sub_cons rfl (sub_cons rfl (sub_cons rfl (sub_cons rfl sub_nil)))))))
   ·intro w hx
    try (have hp:=hp.call hx)
    conv=>whnf
    refine hp.kalloc z273 fun r2 w hp hx=>?_
    conv=>whnf
    refine And.intro hx ?_
    conv=>whnf
    intro w hx
    try (have hp:=hp.call hx)
    conv=>whnf
    refine hp.kalloc z273 fun r1 w hp hx=>?_
    conv=>whnf
    refine And.intro hx ?_
    conv=>whnf
    intro w hx
    try (have hp:=hp.call hx)
    conv=>whnf
    refine hp.kstA TTok rfl 0 rfl (wd_len _) (wd_one _) (by rfl) fun w hp=>?_
    try simp only [List.set_cons_zero,List.set_cons_succ,EV.val] at hp
    conv=>whnf
    refine hp.kstA TTok rfl 1 rfl (wd_len _) (wd_one _) (by rfl) fun w hp=>?_
    try simp only [List.set_cons_zero,List.set_cons_succ,EV.val] at hp
    conv=>whnf
    exact hK _ _ _ (hp.pick [0,1,2,3] (by decide)) _ (sub_cons rfl (sub_cons rfl (sub_cons rfl (sub_cons rfl (sub_cons rfl (sub_cons rfl (sub_cons rfl sub_nil)))))))
 ·have hlt:=of_decide_eq_false hlt
  conv=>whnf
  clear hKq Kq
  refine hKq _ _ _ (.refl _) ?_
  clear hKq Kq
  conv=>whnf
  refine VSeq.mk fun Kq hKq=>?_
  conv=>whnf
  refine hKq _ _ _ (.refl _) ?_
  clear hKq Kq
  conv=>whnf
  refine VSeq.mk fun Kq hKq=>?_
  conv=>whnf
  obtain rfl:i=64:=by omega
  have hWs:=SLv.of_row (hp.get (i:=0) rfl)
  have hqt:=hp.get (i:=1) rfl
  have hWl:=hwl 64
  have hWm:=fun k=>getD_lt32 (hwm 64) k
  obtain ⟨Wd,hWd⟩:∃ L,wsch B 64=L:=⟨_,rfl⟩
  rw [hWd] at hWs hWl hWm
  have hx1:=hp.ext
  have hmix:mix1 KL h B=addW h (rnds KL Wd h 64):=by unfold mix1; rw [hWd]
  rw [hmix]
  have hK:=hK.ext hx1
  have hh:=hh.ext hx1
  have hqt:Blk w qt [.slice pS nS.length cS,.slice pK (kw .i64 KL).length cK] 105:=hqt
  obtain ⟨pw,cw,rfl⟩:=hWs.shape
  clear hp hlt hmm hwl hwm hWd hS
  repeat clear hp
  conv=>whnf
  have hp:=(HpM.nil0 [] w).knil 3 1
  refine hp.kapp sl48 0 rfl (SLv.src TTok (tx:=48) rfl hh (kw_one _ _)) (by rw [kw_len,h8.1]; decide) (by rw [kw_len,h8.1]; unfold maxLen; decide) fun v2 w2 hp=>?_
  simp only [List.set_cons_zero,List.set_cons_succ,List.nil_append] at hp
  have hv2:SLv w2 v2 (kw .i64 (rnds KL Wd h 0)):=SLv.of_row (hp.get (i:=0) rfl)
  have hx2:=hp.ext
  have hK:=hK.ext hx2
  have hh:=hh.ext hx2
  have hWs:=hWs.ext hx2
  have hqt:=Blk.ext hqt hx2
  have hx2:=hx1.trans hx2
  clear hp hx1
  repeat clear hp
  conv=>whnf
  refine hKq _ _ _ (.refl _) ?_
  clear hKq Kq
  conv=>whnf
  refine VSeq.mk fun Kq hKq=>?_
  conv=>whnf
  refine VSeq.mk fun Kq hKq=>?_
  conv=>whnf
  refine hKq _ _ _ (.refl _) ?_
  clear hKq Kq
  conv=>whnf
  refine ⟨fun mm e w'=>∃ (i:Nat) (v:Value),mm+i=64∧e=[(1,.v (.slice ph (kw .i64 h).length ch)),(3,.v (.pointer (some ⟨qt,0,none⟩))),(7,.v (.slice pw (kw .i64 Wd).length cw)),(11,.v v),(12,.v (.int .i64 i))]∧SLv w' v (kw .i64 (rnds KL Wd h i))∧Ext w2 w',
   ⟨64,_,⟨0,_,by omega,rfl,hv2,Ext.refl _⟩,sub_cons rfl (sub_cons rfl (sub_cons rfl (sub_cons rfl (sub_cons rfl sub_nil))))⟩,?_⟩
  rintro mm _ w ⟨i,v,hmm,rfl,hv,hxw⟩
  conv=>whnf
  refine VSeq.mk fun Kq hKq=>?_
  conv=>whnf
  refine VSeq.mk fun Kq hKq=>?_
  conv=>whnf
  refine hKq _ _ _ (.refl _) ?_
  clear hKq Kq
  conv=>whnf
  refine ⟨fun hlt=>?_,fun hlt=>?_⟩
  ·have hlt:=of_decide_eq_true hlt
   conv=>whnf
   refine hKq _ _ _ (.refl _) ?_
   clear hKq Kq
   conv=>whnf
   refine VSeq.mk fun Kq hKq=>?_
   conv=>whnf
   refine VSeq.mk fun Kq hKq=>?_
   conv=>whnf
   have hi:i < 64:=by omega
   have hV8:=rnds_W8 KL Wd h8 i
   have hsucc:rnds KL Wd h (i+1)=rnd8 (rnds KL Wd h i) (KL.getD i 0) (Wd.getD i 0):=rfl
   obtain ⟨V8,hV⟩:∃ L,rnds KL Wd h i=L:=⟨_,rfl⟩
   rw [hV] at hv hV8 hsucc
   obtain ⟨p,c,rfl⟩:=hv.shape
   obtain ⟨g,off,rfl,k0⟩:=hv.at (getk (L:=V8) (i:=0) (by rw [hV8.1]; decide))
   have hg:∀ j,j < 8→w.cell? ⟨g,off+j,none⟩=some (.int .i64 ((V8.getD j 0:Nat):Int)):=fun j hj=>hv.get (getk (L:=V8) (i:=j) (by rw [hV8.1]; exact hj))
   have hlen8:(kw .i64 V8).length=8:=by rw [kw_len,hV8.1]
   have hl:=hV8.get
   have hone:one V8 (KL.getD i 0) (Wd.getD i 0) < M32:=Nat.mod_lt _ (by decide)
   have htwo:two V8 < M32:=Nat.mod_lt _ (by decide)
   have hrnd:rnd8 V8 (KL.getD i 0) (Wd.getD i 0)=[(one V8 (KL.getD i 0) (Wd.getD i 0)+two V8) % M32,V8.getD 0 0,V8.getD 1 0,V8.getD 2 0,(V8.getD 3 0+one V8 (KL.getD i 0) (Wd.getD i 0)) % M32,V8.getD 4 0,V8.getD 5 0,V8.getD 6 0]:=rfl
   have hKi:KL.getD i 0 < M32:=getD_lt32 KL_lt i
   have hWi:=hWm i
   obtain ⟨gK,offK,rfl,cK1⟩:=(hK.ext hxw).at (getk (L:=KL) (i:=i) hi)
   obtain ⟨gW,offW,rfl,cW1⟩:=(hWs.ext hxw).at (getk (L:=Wd) (i:=i) (by omega))
   have hqtw:=Blk.ext hqt hxw
   obtain ⟨va,hva⟩:∃ x,V8.getD 0 0=x:=⟨_,rfl⟩
   obtain ⟨vb,hvb⟩:∃ x,V8.getD 1 0=x:=⟨_,rfl⟩
   obtain ⟨vc,hvc⟩:∃ x,V8.getD 2 0=x:=⟨_,rfl⟩
   obtain ⟨vd,hvd⟩:∃ x,V8.getD 3 0=x:=⟨_,rfl⟩
   obtain ⟨ve,hve⟩:∃ x,V8.getD 4 0=x:=⟨_,rfl⟩
   obtain ⟨vf,hvf⟩:∃ x,V8.getD 5 0=x:=⟨_,rfl⟩
   obtain ⟨vg,hvg⟩:∃ x,V8.getD 6 0=x:=⟨_,rfl⟩
   obtain ⟨vh,hvh⟩:∃ x,V8.getD 7 0=x:=⟨_,rfl⟩
   obtain ⟨kk,hkk⟩:∃ x,KL.getD i 0=x:=⟨_,rfl⟩
   obtain ⟨ww,hww⟩:∃ x,Wd.getD i 0=x:=⟨_,rfl⟩
   have ga:=hg 0 (by decide); have gb:=hg 1 (by decide); have gc:=hg 2 (by decide); have gd:=hg 3 (by decide)
   have ge:=hg 4 (by decide); have gf:=hg 5 (by decide); have gg:=hg 6 (by decide); have gh:=hg 7 (by decide)
   have la:=hl 0; have lb:=hl 1; have lc:=hl 2; have ld:=hl 3
   have le:=hl 4; have lf:=hl 5; have lg:=hl 6; have lh:=hl 7
   rw [hva] at ga la; rw [hvb] at gb lb; rw [hvc] at gc lc; rw [hvd] at gd ld
   rw [hve] at ge le; rw [hvf] at gf lf; rw [hvg] at gg lg; rw [hvh] at gh lh
   rw [hkk] at hKi cK1; rw [hww] at hWi cW1
   rw [hkk,hww] at hone hrnd hsucc
   rw [hva,hvb,hvc,hvd,hve,hvf,hvg] at hrnd
   have honeD:one V8 kk ww=(vh+bs1 ve+chf ve vf vg+kk+ww) % M32:=by unfold one; rw [hve,hvf,hvg,hvh]
   have htwoD:two V8=(bs0 va+maj va vb vc) % M32:=by unfold two; rw [hva,hvb,hvc]
   obtain ⟨o1,ho1⟩:∃ x,one V8 kk ww=x:=⟨_,rfl⟩
   obtain ⟨t1,ht1⟩:∃ x,two V8=x:=⟨_,rfl⟩
   rw [ho1] at hone hrnd honeD
   rw [ht1] at htwo hrnd htwoD
   obtain ⟨⟨e1,e2,e3,e4,e5⟩,f1,f2,f3,f4,f5⟩:=one_ps ve vf vg le lf lg
   obtain ⟨⟨a1,a2,a3,a4,a5⟩,b1,b2,b3,b4,b5⟩:=two_ps va vb vc la lb
   have s1:=sum_p vh (bs1 ve) (chf ve vf vg) kk ww lh (bs1_lt le) (chf_lt le lg) hKi hWi
   rw [← honeD] at s1
   have s2:=sum_p (bs0 va) (maj va vb vc) 0 0 0 (bs0_lt la) (maj_lt la lb) (by decide) (by decide) (by decide)
   rw [show bs0 va+maj va vb vc+0+0+0=bs0 va+maj va vb vc from rfl,← htwoD] at s2
   have s3:=sum_p o1 t1 0 0 0 hone htwo (by decide) (by decide) (by decide)
   rw [show o1+t1+0+0+0=o1+t1 from rfl] at s3
   have s4:=sum_p vd o1 0 0 0 ld hone (by decide) (by decide) (by decide)
   rw [show vd+o1+0+0+0=vd+o1 from rfl] at s4
   rw [hrnd] at hsucc
   have wa:=word_p va la; have wb':=word_p vb lb; have wc:=word_p vc lc
   have we:=word_p ve le; have wf:=word_p vf lf; have wg:=word_p vg lg
   have hp:=HpM.nil0 [] w
   have hK2:∀ (w1:World) (q1 q2 q3:Nat),HpM [] w w1 [blk q1 (wd va) 273,blk q2 (wd vb) 273,blk q3 (wd vc) 273] →
     ∀ l,V.Sub [(1,.v (.slice ph (kw .i64 h).length ch)),(3,.v (.pointer (some ⟨qt,0,none⟩))),(7,.v (.slice (some ⟨gW,offW,none⟩) (kw .i64 Wd).length cw)),(11,.v (.slice (some ⟨g,off,none⟩) (kw .i64 V8).length c)),(12,.v (.int .i64 i)),(13,.v (.pointer (some ⟨q1,0,none⟩))),(14,.v (.pointer (some ⟨q2,0,none⟩))),(15,.v (.pointer (some ⟨q3,0,none⟩)))] l→Kq l w1:=by
    clear hp
    repeat clear hp
    intro wq q1 q2 q3 hp l hsub
    refine hKq _ _ _ hsub ?_
    clear hKq Kq hsub
    have hxq:=hp.ext
    conv=>whnf
    refine VSeq.mk fun Kq hKq=>?_
    conv=>whnf
    have hK2:∀ (w1:World) (q4 q5 q6:Nat),HpM [] w w1 [blk q4 (wd ve) 273,blk q5 (wd vf) 273,blk q6 (wd vg) 273,blk q1 (wd va) 273,blk q2 (wd vb) 273,blk q3 (wd vc) 273] →
      ∀ l,V.Sub [(1,.v (.slice ph (kw .i64 h).length ch)),(3,.v (.pointer (some ⟨qt,0,none⟩))),(7,.v (.slice (some ⟨gW,offW,none⟩) (kw .i64 Wd).length cw)),(11,.v (.slice (some ⟨g,off,none⟩) (kw .i64 V8).length c)),(12,.v (.int .i64 i)),(13,.v (.pointer (some ⟨q1,0,none⟩))),(14,.v (.pointer (some ⟨q2,0,none⟩))),(15,.v (.pointer (some ⟨q3,0,none⟩))),(16,.v (.pointer (some ⟨q4,0,none⟩))),(17,.v (.pointer (some ⟨q5,0,none⟩))),(18,.v (.pointer (some ⟨q6,0,none⟩)))] l→Kq l w1:=by
     clear hp
     repeat clear hp
     intro wr q4 q5 q6 hp l hsub
     refine hKq _ _ _ hsub ?_
     clear hKq Kq hsub
     have hxr:=hp.ext
     conv=>whnf
     refine VSeq.mk fun Kq hKq=>?_
     conv=>whnf
     refine v_mixA TTok FFok mixed [(0,false),(1,false),(2,false),(3,false),(4,false),(5,false),(6,false),(7,false),(8,false),(9,false),(10,false),(11,false),(12,false),(13,false),(14,false),(15,false),(16,false),(17,false),(18,false),(19,false),(20,false),(21,false),(22,false),(23,false),(24,false),(25,false),(26,false),(27,false),(28,false),(29,false),(30,false)] (by kernel_rfl) ?_
     conv=>whnf
     refine ⟨7,⟨by first | rfl | omega,by rw [hlen8]; decide⟩,?_⟩
     conv=>whnf
     refine ⟨_,fun w2 hx'=>run_ld TTok rfl (by rw [addM_eq,Nat.mul_one]; exact Ext.cell (hxr.trans hx') gh),?_⟩
     conv=>whnf
     refine ⟨_,fun w' hx'=>Blk.ldN (Blk.ext (hp.get (i:=0) rfl) hx') TTok rfl (wd_len _),?_⟩
     conv=>whnf
     first | refine PureF.quiet (e1) ?_ | refine PureF.quietE (e1) ?_
     conv=>whnf
     refine ⟨_,fun w' hx'=>Blk.ldN (Blk.ext (hp.get (i:=0) rfl) hx') TTok rfl (wd_len _),?_⟩
     conv=>whnf
     first | refine PureF.quiet (e2) ?_ | refine PureF.quietE (e2) ?_
     conv=>whnf
     refine ⟨_,fun w' hx'=>Blk.ldN (Blk.ext (hp.get (i:=0) rfl) hx') TTok rfl (wd_len _),?_⟩
     conv=>whnf
     first | refine PureF.quiet (e3) ?_ | refine PureF.quietE (e3) ?_
     conv=>whnf
     first | refine PureF.quiet (e4) ?_ | refine PureF.quietE (e4) ?_
     conv=>whnf
     first | refine PureF.quiet (e5) ?_ | refine PureF.quietE (e5) ?_
     conv=>whnf
     refine ⟨_,fun w' hx'=>Blk.ldN (Blk.ext (hp.get (i:=0) rfl) hx') TTok rfl (wd_len _),?_⟩
     conv=>whnf
     refine ⟨_,fun w' hx'=>Blk.ldN (Blk.ext (hp.get (i:=1) rfl) hx') TTok rfl (wd_len _),?_⟩
     conv=>whnf
     first | refine PureF.quiet (f1) ?_ | refine PureF.quietE (f1) ?_
     conv=>whnf
     refine ⟨_,fun w' hx'=>Blk.ldN (Blk.ext (hp.get (i:=0) rfl) hx') TTok rfl (wd_len _),?_⟩
     conv=>whnf
     first | refine PureF.quiet (f2) ?_ | refine PureF.quietE (f2) ?_
     conv=>whnf
     refine ⟨_,fun w' hx'=>Blk.ldN (Blk.ext (hp.get (i:=2) rfl) hx') TTok rfl (wd_len _),?_⟩
     conv=>whnf
     first | refine PureF.quiet (f3) ?_ | refine PureF.quietE (f3) ?_
     conv=>whnf
     first | refine PureF.quiet (f4) ?_ | refine PureF.quietE (f4) ?_
     conv=>whnf
     first | refine PureF.quiet (f5) ?_ | refine PureF.quietE (f5) ?_
     conv=>whnf
     refine ⟨_,fun w2 hx'=>Blk.ld (off:=1) (Blk.ext hqtw (hxr.trans hx')) TTok rfl rfl,?_⟩
     conv=>whnf
     refine ⟨i,⟨by first | rfl | omega,by rw [kw_len,KL_len]; omega⟩,?_⟩
     conv=>whnf
     refine ⟨_,fun w2 hx'=>run_ld TTok rfl (by rw [addM_eq,Nat.mul_one]; exact Ext.cell (hxr.trans hx') cK1),?_⟩
     conv=>whnf
     refine ⟨i,⟨by first | rfl | omega,by rw [kw_len]; omega⟩,?_⟩
     conv=>whnf
     refine ⟨_,fun w2 hx'=>run_ld TTok rfl (by rw [addM_eq,Nat.mul_one]; exact Ext.cell (hxr.trans hx') cW1),?_⟩
     conv=>whnf
     first | refine PureF.quiet (s1) ?_ | refine PureF.quietE (s1) ?_
     conv=>whnf
     intro w hx
     try (have hp:=hp.call hx)
     conv=>whnf
     refine hKq _ _ _ (.refl _) ?_
     clear hKq Kq
     conv=>whnf
     refine VSeq.mk fun Kq hKq=>?_
     conv=>whnf
     refine v_mixA TTok FFok mixed [(0,false),(1,false),(2,false),(3,false),(4,false),(5,false),(6,false),(7,false),(8,false),(9,false),(10,false),(11,false),(12,false),(13,false),(14,false),(15,false),(16,false),(17,false),(18,false),(19,false),(20,false)] (by kernel_rfl) ?_
     conv=>whnf
     refine ⟨_,fun w' hx'=>Blk.ldN (Blk.ext (hp.get (i:=3) rfl) hx') TTok rfl (wd_len _),?_⟩
     conv=>whnf
     first | refine PureF.quiet (a1) ?_ | refine PureF.quietE (a1) ?_
     conv=>whnf
     refine ⟨_,fun w' hx'=>Blk.ldN (Blk.ext (hp.get (i:=3) rfl) hx') TTok rfl (wd_len _),?_⟩
     conv=>whnf
     first | refine PureF.quiet (a2) ?_ | refine PureF.quietE (a2) ?_
     conv=>whnf
     refine ⟨_,fun w' hx'=>Blk.ldN (Blk.ext (hp.get (i:=3) rfl) hx') TTok rfl (wd_len _),?_⟩
     conv=>whnf
     first | refine PureF.quiet (a3) ?_ | refine PureF.quietE (a3) ?_
     conv=>whnf
     first | refine PureF.quiet (a4) ?_ | refine PureF.quietE (a4) ?_
     conv=>whnf
     first | refine PureF.quiet (a5) ?_ | refine PureF.quietE (a5) ?_
     conv=>whnf
     refine ⟨_,fun w' hx'=>Blk.ldN (Blk.ext (hp.get (i:=3) rfl) hx') TTok rfl (wd_len _),?_⟩
     conv=>whnf
     refine ⟨_,fun w' hx'=>Blk.ldN (Blk.ext (hp.get (i:=4) rfl) hx') TTok rfl (wd_len _),?_⟩
     conv=>whnf
     first | refine PureF.quiet (b1) ?_ | refine PureF.quietE (b1) ?_
     conv=>whnf
     refine ⟨_,fun w' hx'=>Blk.ldN (Blk.ext (hp.get (i:=3) rfl) hx') TTok rfl (wd_len _),?_⟩
     conv=>whnf
     refine ⟨_,fun w' hx'=>Blk.ldN (Blk.ext (hp.get (i:=5) rfl) hx') TTok rfl (wd_len _),?_⟩
     conv=>whnf
     first | refine PureF.quiet (b2) ?_ | refine PureF.quietE (b2) ?_
     conv=>whnf
     refine ⟨_,fun w' hx'=>Blk.ldN (Blk.ext (hp.get (i:=4) rfl) hx') TTok rfl (wd_len _),?_⟩
     conv=>whnf
     refine ⟨_,fun w' hx'=>Blk.ldN (Blk.ext (hp.get (i:=5) rfl) hx') TTok rfl (wd_len _),?_⟩
     conv=>whnf
     first | refine PureF.quiet (b3) ?_ | refine PureF.quietE (b3) ?_
     conv=>whnf
     first | refine PureF.quiet (b4) ?_ | refine PureF.quietE (b4) ?_
     conv=>whnf
     first | refine PureF.quiet (b5) ?_ | refine PureF.quietE (b5) ?_
     conv=>whnf
     first | refine PureF.quiet (s2) ?_ | refine PureF.quietE (s2) ?_
     conv=>whnf
     intro w hx
     try (have hp:=hp.call hx)
     conv=>whnf
     refine hKq _ _ _ (.refl _) ?_
     clear hKq Kq
     conv=>whnf
     have hxr:=hp.ext
     refine v_mixA TTok FFok mixed [(0,false),(1,false),(2,false),(3,false),(4,false),(5,false),(6,false),(7,false),(8,false),(9,false),(10,false),(11,false),(12,false),(13,false),(14,false),(15,false),(16,false),(17,false),(18,false),(19,false),(20,false),(21,false),(22,false),(23,false),(24,false),(25,false),(26,true),(27,false)] (by kernel_rfl) ?_
     conv=>whnf
     first | refine PureF.quiet (s3) ?_ | refine PureF.quietE (s3) ?_
     conv=>whnf
     refine ⟨0,⟨by first | rfl | omega,by rw [hlen8]; decide⟩,?_⟩
     conv=>whnf
     refine ⟨_,fun w2 hx'=>run_ld TTok rfl (by rw [addM_eq,Nat.mul_one]; exact Ext.cell (hxr.trans hx') ga),?_⟩
     conv=>whnf
     refine ⟨1,⟨by first | rfl | omega,by rw [hlen8]; decide⟩,?_⟩
     conv=>whnf
     refine ⟨_,fun w2 hx'=>run_ld TTok rfl (by rw [addM_eq,Nat.mul_one]; exact Ext.cell (hxr.trans hx') gb),?_⟩
     conv=>whnf
     refine ⟨2,⟨by first | rfl | omega,by rw [hlen8]; decide⟩,?_⟩
     conv=>whnf
     refine ⟨_,fun w2 hx'=>run_ld TTok rfl (by rw [addM_eq,Nat.mul_one]; exact Ext.cell (hxr.trans hx') gc),?_⟩
     conv=>whnf
     refine ⟨3,⟨by first | rfl | omega,by rw [hlen8]; decide⟩,?_⟩
     conv=>whnf
     refine ⟨_,fun w2 hx'=>run_ld TTok rfl (by rw [addM_eq,Nat.mul_one]; exact Ext.cell (hxr.trans hx') gd),?_⟩
     conv=>whnf
     first | refine PureF.quiet (s4) ?_ | refine PureF.quietE (s4) ?_
     conv=>whnf
     refine ⟨4,⟨by first | rfl | omega,by rw [hlen8]; decide⟩,?_⟩
     conv=>whnf
     refine ⟨_,fun w2 hx'=>run_ld TTok rfl (by rw [addM_eq,Nat.mul_one]; exact Ext.cell (hxr.trans hx') ge),?_⟩
     conv=>whnf
     refine ⟨5,⟨by first | rfl | omega,by rw [hlen8]; decide⟩,?_⟩
     conv=>whnf
     refine ⟨_,fun w2 hx'=>run_ld TTok rfl (by rw [addM_eq,Nat.mul_one]; exact Ext.cell (hxr.trans hx') gf),?_⟩
     conv=>whnf
     refine ⟨6,⟨by first | rfl | omega,by rw [hlen8]; decide⟩,?_⟩
     conv=>whnf
     refine ⟨_,fun w2 hx'=>run_ld TTok rfl (by rw [addM_eq,Nat.mul_one]; exact Ext.cell (hxr.trans hx') gg),?_⟩
     conv=>whnf
     intro w hx
     try (have hp:=hp.call hx)
     conv=>whnf
     refine hp.kmade (kw .i64 [(o1+t1) % M32,va,vb,vc,(vd+o1) % M32,ve,vf,vg]) 3 (fun b=>.slice (some ⟨b,0,none⟩) 8 8) (by kernel_rfl) fun tb w hp hx=>?_
     conv=>whnf
     refine And.intro hx ?_
     conv=>whnf
     intro w hx
     try (have hp:=hp.call hx)
     conv=>whnf
     refine hKq _ _ _ (.refl _) ?_
     clear hKq Kq
     conv=>whnf
     refine Or.inl (And.intro (by omega) ?_)
     conv=>whnf
     exact ⟨mm - 1,_,by omega,⟨i+1,_,by omega,rfl,by rw [hsucc]; exact SLv.of_blk0 (hp.get (i:=0) rfl) rfl,hxw.trans hp.ext⟩,sub_cons rfl (sub_cons rfl (sub_cons rfl (sub_cons rfl (sub_cons rfl sub_nil))))⟩
    refine v_mt TTok FFok mixed 15 (.q 0 (.q 1 (.q 2 (.q 3 (.q 4 (.q 5 (.q 6 (.q 7 (.q 8 (.q 9 (.q 10 (.q 11 (.br3 12 13 14 (.br 13 14 (.m 14 .nil) (.m 13 .nil)) (.br 12 14 (.m 14 .nil) (.m 12 .nil)) (.br 12 13 (.m 13 .nil) (.m 12 .nil))))))))))))))) (by kernel_rfl) ?_
    conv=>whnf
    refine ⟨4,⟨by first | rfl | omega,by rw [hlen8]; decide⟩,?_⟩
    conv=>whnf
    refine ⟨_,fun w2 hx'=>run_ld TTok rfl (by rw [addM_eq,Nat.mul_one]; exact Ext.cell (hxq.trans hx') ge),?_⟩
    conv=>whnf
    first | refine PureF.quiet (we) ?_ | refine PureF.quietE (we) ?_
    conv=>whnf
    refine ⟨5,⟨by first | rfl | omega,by rw [hlen8]; decide⟩,?_⟩
    conv=>whnf
    refine ⟨_,fun w2 hx'=>run_ld TTok rfl (by rw [addM_eq,Nat.mul_one]; exact Ext.cell (hxq.trans hx') gf),?_⟩
    conv=>whnf
    first | refine PureF.quiet (wf) ?_ | refine PureF.quietE (wf) ?_
    conv=>whnf
    refine ⟨6,⟨by first | rfl | omega,by rw [hlen8]; decide⟩,?_⟩
    conv=>whnf
    refine ⟨_,fun w2 hx'=>run_ld TTok rfl (by rw [addM_eq,Nat.mul_one]; exact Ext.cell (hxq.trans hx') gg),?_⟩
    conv=>whnf
    first | refine PureF.quiet (wg) ?_ | refine PureF.quietE (wg) ?_
    conv=>whnf
    clear hKq
    refine And.intro ?_ (And.intro ?_ ?_)
    ·intro w hx
     try (have hp:=hp.call hx)
     conv=>whnf
     refine hp.kalloc z273 fun r1 w hp hx=>?_
     conv=>whnf
     refine And.intro hx ?_
     conv=>whnf
     refine And.intro ?_ ?_
     ·intro w hx
      try (have hp:=hp.call hx)
      conv=>whnf
      refine hp.kalloc z273 fun r2 w hp hx=>?_
      conv=>whnf
      refine And.intro hx ?_
      conv=>whnf
      intro w hx
      try (have hp:=hp.call hx)
      conv=>whnf
      refine hp.kalloc z273 fun r3 w hp hx=>?_
      conv=>whnf
      refine And.intro hx ?_
      conv=>whnf
      intro w hx
      try (have hp:=hp.call hx)
      conv=>whnf
      refine hp.kstA TTok rfl 2 rfl (wd_len _) (wd_one _) (by rfl) fun w hp=>?_
      try simp only [List.set_cons_zero,List.set_cons_succ,EV.val] at hp
      conv=>whnf
      refine hp.kstA TTok rfl 1 rfl (wd_len _) (wd_one _) (by rfl) fun w hp=>?_
      try simp only [List.set_cons_zero,List.set_cons_succ,EV.val] at hp
      conv=>whnf
      refine hp.kstA TTok rfl 0 rfl (wd_len _) (wd_one _) (by rfl) fun w hp=>?_
      try simp only [List.set_cons_zero,List.set_cons_succ,EV.val] at hp
      conv=>whnf
      exact hK2 _ _ _ _ (hp.pick [2,1,0,3,4,5] (by decide)) _ (sub_cons rfl (sub_cons rfl (sub_cons rfl (sub_cons rfl (sub_cons rfl (sub_cons rfl (sub_cons rfl (sub_cons rfl (sub_cons rfl (sub_cons rfl (sub_cons rfl sub_nil)))))))))))
     ·intro w hx
      try (have hp:=hp.call hx)
      conv=>whnf
      refine hp.kalloc z273 fun r3 w hp hx=>?_
      conv=>whnf
      refine And.intro hx ?_
      conv=>whnf
      intro w hx
      try (have hp:=hp.call hx)
      conv=>whnf
      refine hp.kalloc z273 fun r2 w hp hx=>?_
      conv=>whnf
      refine And.intro hx ?_
      conv=>whnf
      intro w hx
      try (have hp:=hp.call hx)
      conv=>whnf
      refine hp.kstA TTok rfl 2 rfl (wd_len _) (wd_one _) (by rfl) fun w hp=>?_
      try simp only [List.set_cons_zero,List.set_cons_succ,EV.val] at hp
      conv=>whnf
      refine hp.kstA TTok rfl 0 rfl (wd_len _) (wd_one _) (by rfl) fun w hp=>?_
      try simp only [List.set_cons_zero,List.set_cons_succ,EV.val] at hp
      conv=>whnf
      refine hp.kstA TTok rfl 1 rfl (wd_len _) (wd_one _) (by rfl) fun w hp=>?_
      try simp only [List.set_cons_zero,List.set_cons_succ,EV.val] at hp
      conv=>whnf
      exact hK2 _ _ _ _ (hp.pick [2,0,1,3,4,5] (by decide)) _ (sub_cons rfl (sub_cons rfl (sub_cons rfl (sub_cons rfl (sub_cons rfl (sub_cons rfl (sub_cons rfl (sub_cons rfl (sub_cons rfl (sub_cons rfl (sub_cons rfl sub_nil)))))))))))
    ·intro w hx
     try (have hp:=hp.call hx)
     conv=>whnf
     refine hp.kalloc z273 fun r2 w hp hx=>?_
     conv=>whnf
     refine And.intro hx ?_
     conv=>whnf
     refine And.intro ?_ ?_
     ·intro w hx
      try (have hp:=hp.call hx)
      conv=>whnf
      refine hp.kalloc z273 fun r1 w hp hx=>?_
      conv=>whnf
      refine And.intro hx ?_
      conv=>whnf
      intro w hx
      try (have hp:=hp.call hx)
      conv=>whnf
      refine hp.kalloc z273 fun r3 w hp hx=>?_
      conv=>whnf
      refine And.intro hx ?_
      conv=>whnf
      intro w hx
      try (have hp:=hp.call hx)
      conv=>whnf
      refine hp.kstA TTok rfl 1 rfl (wd_len _) (wd_one _) (by rfl) fun w hp=>?_
      try simp only [List.set_cons_zero,List.set_cons_succ,EV.val] at hp
      conv=>whnf
      refine hp.kstA TTok rfl 2 rfl (wd_len _) (wd_one _) (by rfl) fun w hp=>?_
      try simp only [List.set_cons_zero,List.set_cons_succ,EV.val] at hp
      conv=>whnf
      refine hp.kstA TTok rfl 0 rfl (wd_len _) (wd_one _) (by rfl) fun w hp=>?_
      try simp only [List.set_cons_zero,List.set_cons_succ,EV.val] at hp
      conv=>whnf
      exact hK2 _ _ _ _ (hp.pick [1,2,0,3,4,5] (by decide)) _ (sub_cons rfl (sub_cons rfl (sub_cons rfl (sub_cons rfl (sub_cons rfl (sub_cons rfl (sub_cons rfl (sub_cons rfl (sub_cons rfl (sub_cons rfl (sub_cons rfl sub_nil)))))))))))
     ·intro w hx
      try (have hp:=hp.call hx)
      conv=>whnf
      refine hp.kalloc z273 fun r3 w hp hx=>?_
      conv=>whnf
      refine And.intro hx ?_
      conv=>whnf
      intro w hx
      try (have hp:=hp.call hx)
      conv=>whnf
      refine hp.kalloc z273 fun r1 w hp hx=>?_
      conv=>whnf
      refine And.intro hx ?_
      conv=>whnf
      intro w hx
      try (have hp:=hp.call hx)
      conv=>whnf
      refine hp.kstA TTok rfl 0 rfl (wd_len _) (wd_one _) (by rfl) fun w hp=>?_
      try simp only [List.set_cons_zero,List.set_cons_succ,EV.val] at hp
      conv=>whnf
      refine hp.kstA TTok rfl 2 rfl (wd_len _) (wd_one _) (by rfl) fun w hp=>?_
      try simp only [List.set_cons_zero,List.set_cons_succ,EV.val] at hp
      conv=>whnf
      refine hp.kstA TTok rfl 1 rfl (wd_len _) (wd_one _) (by rfl) fun w hp=>?_
      try simp only [List.set_cons_zero,List.set_cons_succ,EV.val] at hp
      conv=>whnf
      exact hK2 _ _ _ _ (hp.pick [0,2,1,3,4,5] (by decide)) _ (sub_cons rfl (sub_cons rfl (sub_cons rfl (sub_cons rfl (sub_cons rfl (sub_cons rfl (sub_cons rfl (sub_cons rfl (sub_cons rfl (sub_cons rfl (sub_cons rfl sub_nil)))))))))))
    ·intro w hx
     try (have hp:=hp.call hx)
     conv=>whnf
     refine hp.kalloc z273 fun r3 w hp hx=>?_
     conv=>whnf
     refine And.intro hx ?_
     conv=>whnf
     refine And.intro ?_ ?_
     ·intro w hx
      try (have hp:=hp.call hx)
      conv=>whnf
      refine hp.kalloc z273 fun r1 w hp hx=>?_
      conv=>whnf
      refine And.intro hx ?_
      conv=>whnf
      intro w hx
      try (have hp:=hp.call hx)
      conv=>whnf
      refine hp.kalloc z273 fun r2 w hp hx=>?_
      conv=>whnf
      refine And.intro hx ?_
      conv=>whnf
      intro w hx
      try (have hp:=hp.call hx)
      conv=>whnf
      refine hp.kstA TTok rfl 1 rfl (wd_len _) (wd_one _) (by rfl) fun w hp=>?_
      try simp only [List.set_cons_zero,List.set_cons_succ,EV.val] at hp
      conv=>whnf
      refine hp.kstA TTok rfl 0 rfl (wd_len _) (wd_one _) (by rfl) fun w hp=>?_
      try simp only [List.set_cons_zero,List.set_cons_succ,EV.val] at hp
      conv=>whnf
      refine hp.kstA TTok rfl 2 rfl (wd_len _) (wd_one _) (by rfl) fun w hp=>?_
      try simp only [List.set_cons_zero,List.set_cons_succ,EV.val] at hp
      conv=>whnf
      exact hK2 _ _ _ _ (hp.pick [1,0,2,3,4,5] (by decide)) _ (sub_cons rfl (sub_cons rfl (sub_cons rfl (sub_cons rfl (sub_cons rfl (sub_cons rfl (sub_cons rfl (sub_cons rfl (sub_cons rfl (sub_cons rfl (sub_cons rfl sub_nil)))))))))))
     ·intro w hx
      try (have hp:=hp.call hx)
      conv=>whnf
      refine hp.kalloc z273 fun r2 w hp hx=>?_
      conv=>whnf
      refine And.intro hx ?_
      conv=>whnf
      intro w hx
      try (have hp:=hp.call hx)
      conv=>whnf
      refine hp.kalloc z273 fun r1 w hp hx=>?_
      conv=>whnf
      refine And.intro hx ?_
      conv=>whnf
      intro w hx
      try (have hp:=hp.call hx)
      conv=>whnf
      refine hp.kstA TTok rfl 0 rfl (wd_len _) (wd_one _) (by rfl) fun w hp=>?_
      try simp only [List.set_cons_zero,List.set_cons_succ,EV.val] at hp
      conv=>whnf
      refine hp.kstA TTok rfl 1 rfl (wd_len _) (wd_one _) (by rfl) fun w hp=>?_
      try simp only [List.set_cons_zero,List.set_cons_succ,EV.val] at hp
      conv=>whnf
      refine hp.kstA TTok rfl 2 rfl (wd_len _) (wd_one _) (by rfl) fun w hp=>?_
      try simp only [List.set_cons_zero,List.set_cons_succ,EV.val] at hp
      conv=>whnf
      exact hK2 _ _ _ _ (hp.pick [0,1,2,3,4,5] (by decide)) _ (sub_cons rfl (sub_cons rfl (sub_cons rfl (sub_cons rfl (sub_cons rfl (sub_cons rfl (sub_cons rfl (sub_cons rfl (sub_cons rfl (sub_cons rfl (sub_cons rfl sub_nil)))))))))))
   refine v_mt TTok FFok mixed 15 (.q 0 (.q 1 (.q 2 (.q 3 (.q 4 (.q 5 (.q 6 (.q 7 (.q 8 (.q 9 (.q 10 (.q 11 (.br3 12 13 14 (.br 13 14 (.m 14 .nil) (.m 13 .nil)) (.br 12 14 (.m 14 .nil) (.m 12 .nil)) (.br 12 13 (.m 13 .nil) (.m 12 .nil))))))))))))))) (by kernel_rfl) ?_
   conv=>whnf
   refine ⟨0,⟨by first | rfl | omega,by rw [hlen8]; decide⟩,?_⟩
   conv=>whnf
   refine ⟨_,fun w2 hx'=>run_ld TTok rfl (by rw [addM_eq,Nat.mul_one]; exact Ext.cell hx' ga),?_⟩
   conv=>whnf
   first | refine PureF.quiet (wa) ?_ | refine PureF.quietE (wa) ?_
   conv=>whnf
   refine ⟨1,⟨by first | rfl | omega,by rw [hlen8]; decide⟩,?_⟩
   conv=>whnf
   refine ⟨_,fun w2 hx'=>run_ld TTok rfl (by rw [addM_eq,Nat.mul_one]; exact Ext.cell hx' gb),?_⟩
   conv=>whnf
   first | refine PureF.quiet (wb') ?_ | refine PureF.quietE (wb') ?_
   conv=>whnf
   refine ⟨2,⟨by first | rfl | omega,by rw [hlen8]; decide⟩,?_⟩
   conv=>whnf
   refine ⟨_,fun w2 hx'=>run_ld TTok rfl (by rw [addM_eq,Nat.mul_one]; exact Ext.cell hx' gc),?_⟩
   conv=>whnf
   first | refine PureF.quiet (wc) ?_ | refine PureF.quietE (wc) ?_
   conv=>whnf
   clear hKq
   refine And.intro ?_ (And.intro ?_ ?_)
   ·intro w hx
    try (have hp:=hp.call hx)
    conv=>whnf
    refine hp.kalloc z273 fun r1 w hp hx=>?_
    conv=>whnf
    refine And.intro hx ?_
    conv=>whnf
    refine And.intro ?_ ?_
    ·intro w hx
     try (have hp:=hp.call hx)
     conv=>whnf
     refine hp.kalloc z273 fun r2 w hp hx=>?_
     conv=>whnf
     refine And.intro hx ?_
     conv=>whnf
     intro w hx
     try (have hp:=hp.call hx)
     conv=>whnf
     refine hp.kalloc z273 fun r3 w hp hx=>?_
     conv=>whnf
     refine And.intro hx ?_
     conv=>whnf
     intro w hx
     try (have hp:=hp.call hx)
     conv=>whnf
     refine hp.kstA TTok rfl 2 rfl (wd_len _) (wd_one _) (by rfl) fun w hp=>?_
     try simp only [List.set_cons_zero,List.set_cons_succ,EV.val] at hp
     conv=>whnf
     refine hp.kstA TTok rfl 1 rfl (wd_len _) (wd_one _) (by rfl) fun w hp=>?_
     try simp only [List.set_cons_zero,List.set_cons_succ,EV.val] at hp
     conv=>whnf
     refine hp.kstA TTok rfl 0 rfl (wd_len _) (wd_one _) (by rfl) fun w hp=>?_
     try simp only [List.set_cons_zero,List.set_cons_succ,EV.val] at hp
     conv=>whnf
     exact hK2 _ _ _ _ (hp.pick [2,1,0] (by decide)) _ (sub_cons rfl (sub_cons rfl (sub_cons rfl (sub_cons rfl (sub_cons rfl (sub_cons rfl (sub_cons rfl (sub_cons rfl sub_nil))))))))
    ·intro w hx
     try (have hp:=hp.call hx)
     conv=>whnf
     refine hp.kalloc z273 fun r3 w hp hx=>?_
     conv=>whnf
     refine And.intro hx ?_
     conv=>whnf
     intro w hx
     try (have hp:=hp.call hx)
     conv=>whnf
     refine hp.kalloc z273 fun r2 w hp hx=>?_
     conv=>whnf
     refine And.intro hx ?_
     conv=>whnf
     intro w hx
     try (have hp:=hp.call hx)
     conv=>whnf
     refine hp.kstA TTok rfl 2 rfl (wd_len _) (wd_one _) (by rfl) fun w hp=>?_
     try simp only [List.set_cons_zero,List.set_cons_succ,EV.val] at hp
     conv=>whnf
     refine hp.kstA TTok rfl 0 rfl (wd_len _) (wd_one _) (by rfl) fun w hp=>?_
     try simp only [List.set_cons_zero,List.set_cons_succ,EV.val] at hp
     conv=>whnf
     refine hp.kstA TTok rfl 1 rfl (wd_len _) (wd_one _) (by rfl) fun w hp=>?_
     try simp only [List.set_cons_zero,List.set_cons_succ,EV.val] at hp
     conv=>whnf
     exact hK2 _ _ _ _ (hp.pick [2,0,1] (by decide)) _ (sub_cons rfl (sub_cons rfl (sub_cons rfl (sub_cons rfl (sub_cons rfl (sub_cons rfl (sub_cons rfl (sub_cons rfl sub_nil))))))))
   ·intro w hx
    try (have hp:=hp.call hx)
    conv=>whnf
    refine hp.kalloc z273 fun r2 w hp hx=>?_
    conv=>whnf
    refine And.intro hx ?_
    conv=>whnf
    refine And.intro ?_ ?_
    ·intro w hx
     try (have hp:=hp.call hx)
     conv=>whnf
     refine hp.kalloc z273 fun r1 w hp hx=>?_
     conv=>whnf
     refine And.intro hx ?_
     conv=>whnf
     intro w hx
     try (have hp:=hp.call hx)
     conv=>whnf
     refine hp.kalloc z273 fun r3 w hp hx=>?_
     conv=>whnf
     refine And.intro hx ?_
     conv=>whnf
     intro w hx
     try (have hp:=hp.call hx)
     conv=>whnf
     refine hp.kstA TTok rfl 1 rfl (wd_len _) (wd_one _) (by rfl) fun w hp=>?_
     try simp only [List.set_cons_zero,List.set_cons_succ,EV.val] at hp
     conv=>whnf
     refine hp.kstA TTok rfl 2 rfl (wd_len _) (wd_one _) (by rfl) fun w hp=>?_
     try simp only [List.set_cons_zero,List.set_cons_succ,EV.val] at hp
     conv=>whnf
     refine hp.kstA TTok rfl 0 rfl (wd_len _) (wd_one _) (by rfl) fun w hp=>?_
     try simp only [List.set_cons_zero,List.set_cons_succ,EV.val] at hp
     conv=>whnf
     exact hK2 _ _ _ _ (hp.pick [1,2,0] (by decide)) _ (sub_cons rfl (sub_cons rfl (sub_cons rfl (sub_cons rfl (sub_cons rfl (sub_cons rfl (sub_cons rfl (sub_cons rfl sub_nil))))))))
    ·intro w hx
     try (have hp:=hp.call hx)
     conv=>whnf
     refine hp.kalloc z273 fun r3 w hp hx=>?_
     conv=>whnf
     refine And.intro hx ?_
     conv=>whnf
     intro w hx
     try (have hp:=hp.call hx)
     conv=>whnf
     refine hp.kalloc z273 fun r1 w hp hx=>?_
     conv=>whnf
     refine And.intro hx ?_
     conv=>whnf
     intro w hx
     try (have hp:=hp.call hx)
     conv=>whnf
     refine hp.kstA TTok rfl 0 rfl (wd_len _) (wd_one _) (by rfl) fun w hp=>?_
     try simp only [List.set_cons_zero,List.set_cons_succ,EV.val] at hp
     conv=>whnf
     refine hp.kstA TTok rfl 2 rfl (wd_len _) (wd_one _) (by rfl) fun w hp=>?_
     try simp only [List.set_cons_zero,List.set_cons_succ,EV.val] at hp
     conv=>whnf
     refine hp.kstA TTok rfl 1 rfl (wd_len _) (wd_one _) (by rfl) fun w hp=>?_
     try simp only [List.set_cons_zero,List.set_cons_succ,EV.val] at hp
     conv=>whnf
     exact hK2 _ _ _ _ (hp.pick [0,2,1] (by decide)) _ (sub_cons rfl (sub_cons rfl (sub_cons rfl (sub_cons rfl (sub_cons rfl (sub_cons rfl (sub_cons rfl (sub_cons rfl sub_nil))))))))
   ·intro w hx
    try (have hp:=hp.call hx)
    conv=>whnf
    refine hp.kalloc z273 fun r3 w hp hx=>?_
    conv=>whnf
    refine And.intro hx ?_
    conv=>whnf
    refine And.intro ?_ ?_
    ·intro w hx
     try (have hp:=hp.call hx)
     conv=>whnf
     refine hp.kalloc z273 fun r1 w hp hx=>?_
     conv=>whnf
     refine And.intro hx ?_
     conv=>whnf
     intro w hx
     try (have hp:=hp.call hx)
     conv=>whnf
     refine hp.kalloc z273 fun r2 w hp hx=>?_
     conv=>whnf
     refine And.intro hx ?_
     conv=>whnf
     intro w hx
     try (have hp:=hp.call hx)
     conv=>whnf
     refine hp.kstA TTok rfl 1 rfl (wd_len _) (wd_one _) (by rfl) fun w hp=>?_
     try simp only [List.set_cons_zero,List.set_cons_succ,EV.val] at hp
     conv=>whnf
     refine hp.kstA TTok rfl 0 rfl (wd_len _) (wd_one _) (by rfl) fun w hp=>?_
     try simp only [List.set_cons_zero,List.set_cons_succ,EV.val] at hp
     conv=>whnf
     refine hp.kstA TTok rfl 2 rfl (wd_len _) (wd_one _) (by rfl) fun w hp=>?_
     try simp only [List.set_cons_zero,List.set_cons_succ,EV.val] at hp
     conv=>whnf
     exact hK2 _ _ _ _ (hp.pick [1,0,2] (by decide)) _ (sub_cons rfl (sub_cons rfl (sub_cons rfl (sub_cons rfl (sub_cons rfl (sub_cons rfl (sub_cons rfl (sub_cons rfl sub_nil))))))))
    ·intro w hx
     try (have hp:=hp.call hx)
     conv=>whnf
     refine hp.kalloc z273 fun r2 w hp hx=>?_
     conv=>whnf
     refine And.intro hx ?_
     conv=>whnf
     intro w hx
     try (have hp:=hp.call hx)
     conv=>whnf
     refine hp.kalloc z273 fun r1 w hp hx=>?_
     conv=>whnf
     refine And.intro hx ?_
     conv=>whnf
     intro w hx
     try (have hp:=hp.call hx)
     conv=>whnf
     refine hp.kstA TTok rfl 0 rfl (wd_len _) (wd_one _) (by rfl) fun w hp=>?_
     try simp only [List.set_cons_zero,List.set_cons_succ,EV.val] at hp
     conv=>whnf
     refine hp.kstA TTok rfl 1 rfl (wd_len _) (wd_one _) (by rfl) fun w hp=>?_
     try simp only [List.set_cons_zero,List.set_cons_succ,EV.val] at hp
     conv=>whnf
     refine hp.kstA TTok rfl 2 rfl (wd_len _) (wd_one _) (by rfl) fun w hp=>?_
     try simp only [List.set_cons_zero,List.set_cons_succ,EV.val] at hp
     conv=>whnf
     exact hK2 _ _ _ _ (hp.pick [0,1,2] (by decide)) _ (sub_cons rfl (sub_cons rfl (sub_cons rfl (sub_cons rfl (sub_cons rfl (sub_cons rfl (sub_cons rfl (sub_cons rfl sub_nil))))))))
  ·have hlt:=of_decide_eq_false hlt
   conv=>whnf
   clear hKq Kq
   refine hKq _ _ _ (.refl _) ?_
   clear hKq Kq
   conv=>whnf
   refine VSeq.mk fun Kq hKq=>?_
   conv=>whnf
   refine hKq _ _ _ (.refl _) ?_
   clear hKq Kq
   conv=>whnf
   refine VSeq.mk fun Kq hKq=>?_
   conv=>whnf
   refine VSeq.mk fun Kq hKq=>?_
   conv=>whnf
   refine hKq _ _ _ (.refl _) ?_
   clear hKq Kq
   conv=>whnf
   obtain rfl:i=64:=by omega
   have hR8:=rnds_W8 KL Wd h8 64
   obtain ⟨R,hR⟩:∃ L,rnds KL Wd h 64=L:=⟨_,rfl⟩
   rw [hR] at hv hR8
   have hh:=hh.ext hxw
   have hxw:=hx2.trans hxw
   obtain ⟨pv,cv,rfl⟩:=hv.shape
   have hlh:(kw .i64 h).length=8:=by rw [kw_len,h8.1]
   have hlR:(kw .i64 R).length=8:=by rw [kw_len,hR8.1]
   clear hlt hmm hx2 hWs hqt hK hWm hWl
   conv=>whnf
   have hp:=(HpM.nil0 [] w).knil 3 1
   have hp:HpM [] w w [row 3 1 (.slice none 0 0) 0 (kw .i64 ((addW h R).take 0))]:=hp
   refine ⟨fun mm e w'=>∃ (i:Nat) (v:Value),mm+i=8∧e=[(1,.v (.slice ph (kw .i64 h).length ch)),(11,.v (.slice pv (kw .i64 R).length cv)),(21,.v v),(22,.v (.int .i64 i))]∧HpM [] w w' [row 3 1 v i (kw .i64 ((addW h R).take i))],
    ⟨8,_,⟨0,_,by omega,rfl,hp⟩,sub_cons rfl (sub_cons rfl (sub_cons rfl (sub_cons rfl sub_nil)))⟩,?_⟩
   clear hp
   repeat clear hp
   rintro mm _ w3 ⟨i,v,hmm,rfl,hp⟩
   conv=>whnf
   refine VSeq.mk fun Kq hKq=>?_
   conv=>whnf
   refine VSeq.mk fun Kq hKq=>?_
   conv=>whnf
   refine hKq _ _ _ (.refl _) ?_
   clear hKq Kq
   conv=>whnf
   refine ⟨fun hlt=>?_,fun hlt=>?_⟩
   ·have hlt:=of_decide_eq_true hlt
    conv=>whnf
    refine hKq _ _ _ (.refl _) ?_
    clear hKq Kq
    conv=>whnf
    refine VSeq.mk fun Kq hKq=>?_
    conv=>whnf
    have hi:i < 8:=by omega
    obtain ⟨g1,o1,rfl,c1⟩:=hh.at (getk (L:=h) (i:=i) (by rw [h8.1]; exact hi))
    obtain ⟨g2,o2,rfl,c2⟩:=hv.at (getk (L:=R) (i:=i) (by rw [hR8.1]; exact hi))
    have hs:=sum_p (h.getD i 0) (R.getD i 0) 0 0 0 (h8.get i) (hR8.get i) (by decide) (by decide) (by decide)
    have hsucc:(addW h R).take (i+1)=(addW h R).take i++[(h.getD i 0+R.getD i 0) % M32]:=by
     rw [List.take_add_one,addW_get h R i hi]; rfl
    obtain ⟨x,hxd⟩:∃ x,(h.getD i 0+R.getD i 0) % M32=x:=⟨_,rfl⟩
    rw [hxd] at hsucc
    rw [show h.getD i 0+R.getD i 0+0+0+0=h.getD i 0+R.getD i 0 from rfl,hxd] at hs
    have hxr:=hp.ext
    refine v_mix TTok FFok mixed 11 [(0,false),(1,false),(2,false),(3,false),(4,false),(5,false),(6,false),(7,false),(8,false),(9,false),(10,true)] (by kernel_rfl) ?_
    conv=>whnf
    refine ⟨i,⟨by first | rfl | omega,by rw [hlh]; omega⟩,?_⟩
    conv=>whnf
    refine ⟨_,fun w2 hx'=>run_ld TTok rfl (by rw [addM_eq,Nat.mul_one]; exact Ext.cell (hxr.trans hx') c1),?_⟩
    conv=>whnf
    refine ⟨i,⟨by first | rfl | omega,by rw [hlR]; omega⟩,?_⟩
    conv=>whnf
    refine ⟨_,fun w2 hx'=>run_ld TTok rfl (by rw [addM_eq,Nat.mul_one]; exact Ext.cell (hxr.trans hx') c2),?_⟩
    conv=>whnf
    first | refine PureF.quiet (hs) ?_ | refine PureF.quietE (hs) ?_
    conv=>whnf
    intro w hx
    try (have hp:=hp.call hx)
    conv=>whnf
    refine hp.kmade (kw .i64 [x]) 3 (fun b=>.slice (some ⟨b,0,none⟩) 1 1) (by kernel_rfl) fun tb w hp hx=>?_
    conv=>whnf
    refine And.intro hx ?_
    conv=>whnf
    intro w hx
    try (have hp:=hp.call hx)
    conv=>whnf
    refine hp.kapp sl48 1 rfl (Blk.src TTok (hp.get (i:=0) rfl) rfl rfl (kw_one _ _)) (by omega) (by unfold maxLen; omega) fun v' w hp=>?_
    simp only [List.set_cons_zero,List.set_cons_succ] at hp
    rw [← kw_app,← hsucc] at hp
    conv=>whnf
    refine hKq _ _ _ (.refl _) ?_
    clear hKq Kq
    conv=>whnf
    refine Or.inl (And.intro (by omega) ?_)
    conv=>whnf
    exact ⟨mm - 1,_,by omega,⟨i+1,v',by omega,rfl,hp.tail⟩,sub_cons rfl (sub_cons rfl (sub_cons rfl (sub_cons rfl sub_nil)))⟩
   ·have hlt:=of_decide_eq_false hlt
    conv=>whnf
    clear hKq Kq
    refine hKq _ _ _ (.refl _) ?_
    clear hKq Kq
    conv=>whnf
    refine VSeq.mk fun Kq hKq=>?_
    conv=>whnf
    refine hKq _ _ _ (.refl _) ?_
    clear hKq Kq
    conv=>whnf
    obtain rfl:i=8:=by omega
    rw [List.take_of_length_le (by rw [(addW_W8 h R).1]; exact Nat.le_refl _)] at hp
    exact ⟨by rw [hmix,hR]; exact SLv.of_row (hp.get (i:=0) rfl),hxw.trans hp.ext⟩
set_option maxHeartbeats 1600000 in
theorem all_c {W:World} {tS tK hs:Value} (h:List Nat) (s:ByteArray) {nS:List Value} (hS:SLv W tS nS) (hK:SLv W tK (kw .i64 KL)) (hh:SLv W hs (kw .i64 h)) (h8:W8 h) (hb:s.size≤1000000) :
  Calls Tryz.prog 172 #[.agg #[tS,tK],hs,.string s] W fun e w'=>∃ v,e = .returned v∧SLv w' v (kw .i64 (mixA KL h s.data.toList))∧Ext W w':=by
 obtain ⟨pS,cS,rfl⟩:=hS.shape
 obtain ⟨pK,cK,rfl⟩:=hK.shape
 refine v_fn (args:=[.agg #[.slice pS nS.length cS,.slice pK (kw .i64 KL).length cK],hs,.string s]) TTok FFok Tryz.func172 rfl (Nat.le_of_ble_eq_true rfl) ?_
 conv=>whnf
 refine VSeq.mk fun Kq hKq=>?_
 conv=>whnf
 have hp:=Hp.nil W
 refine hp.kbox ([.slice pS nS.length cS,.slice pK (kw .i64 KL).length cK]) rfl fun qt w hp hx=>?_
 conv=>whnf
 refine hKq _ _ _ (.refl _) ?_
 clear hKq Kq
 conv=>whnf
 refine VSeq.mk fun Kq hKq=>?_
 conv=>whnf
 refine VSeq.mk fun Kq hKq=>?_
 conv=>whnf
 refine hKq _ _ _ (.refl _) ?_
 clear hKq Kq
 conv=>whnf
 have hsl:=toList_len s
 obtain ⟨N,hN⟩:∃ N,s.size / 64=N:=⟨_,rfl⟩
 have hmix:mixA KL h s.data.toList=mixJ KL s.data.toList h N:=by unfold mixA; rw [hsl,hN]
 rw [hmix]
 have hqt:Blk w qt [.slice pS nS.length cS,.slice pK (kw .i64 KL).length cK] 105:=hp.get (i:=0) rfl
 have hh0:SLv w hs (kw .i64 (mixJ KL s.data.toList h 0)):=hh.ext hx
 clear hp
 repeat clear hp
 refine ⟨fun mm e w'=>∃ (j:Nat) (v:Value),mm+j=N∧e=[(1,.v v),(2,.v (.string s)),(3,.v (.pointer (some ⟨qt,0,none⟩))),(7,.v (.int .i64 (64 * j:Nat)))]∧SLv w' v (kw .i64 (mixJ KL s.data.toList h j))∧Ext w w',
   ⟨N,_,⟨0,_,by omega,rfl,hh0,Ext.refl _⟩,sub_cons rfl (sub_cons rfl (sub_cons rfl (sub_cons rfl sub_nil)))⟩,?_⟩
 rintro mm _ w1 ⟨j,v,hmm,rfl,hv,hxw⟩
 conv=>whnf
 refine VSeq.mk fun Kq hKq=>?_
 conv=>whnf
 refine VSeq.mk fun Kq hKq=>?_
 conv=>whnf
 refine Or.inl (And.intro (by omega) ?_)
 conv=>whnf
 refine hKq _ _ _ (.refl _) ?_
 clear hKq Kq
 conv=>whnf
 refine ⟨fun hlt=>?_,fun hlt=>?_⟩
 ·have hlt:=of_decide_eq_true hlt
  conv=>whnf
  refine hKq _ _ _ (.refl _) ?_
  clear hKq Kq
  conv=>whnf
  refine VSeq.mk fun Kq hKq=>?_
  conv=>whnf
  have hj:j < N:=by omega
  have hl:(s.extract (64 * j) (64 * j+64)).data.toList=(s.data.toList.drop (64 * j)).take 64:=by rw [ext_list,show 64 * j+64 - 64 * j=64 by omega]
  have hp:=HpM.nil0 [] w1
  have hx01:=hx.trans hxw
  refine v_mixA TTok FFok mixed [(0,false),(1,false),(2,false),(3,false),(4,false),(5,false),(6,false),(7,true),(8,false)] (by kernel_rfl) ?_
  conv=>whnf
  refine ⟨_,fun w2 hx'=>Blk.ldN (Blk.ext hqt (hxw.trans hx')) TTok rfl rfl,?_⟩
  conv=>whnf
  refine Or.inl (And.intro (by omega) ?_)
  conv=>whnf
  refine ⟨64 * j,64 * j+64,⟨by first | rfl | omega,by first | rfl | omega,by omega,by omega⟩,?_⟩
  conv=>whnf
  intro w hx
  try (have hp:=hp.call hx)
  conv=>whnf
  refine Calls.mono (Mixed_c (W:=w) (mixJ KL s.data.toList h j) (s.extract (64 * j) (64 * j+64)) (hS.ext (hx01.trans hx)) (hK.ext (hx01.trans hx)) (hv.ext hx) (mixJ_W8 KL _ h8 j) (by rw [size_extract _ _ _ (by omega)]; omega)) ?_
  rintro _ w ⟨v2,rfl,hv2,hx⟩
  refine ⟨_,rfl,?_⟩
  conv=>whnf
  refine And.intro hx ?_
  conv=>whnf
  have hp:=hp.call hx
  intro w hx
  try (have hp:=hp.call hx)
  conv=>whnf
  refine hKq _ _ _ (.refl _) ?_
  clear hKq Kq
  conv=>whnf
  refine Or.inl (And.intro (by omega) ?_)
  conv=>whnf
  rw [hl] at hv2
  exact ⟨mm - 1,_,by omega,⟨j+1,v2,by omega,rfl,hv2.ext hx,hxw.trans hp.ext⟩,sub_cons rfl (sub_cons rfl (sub_cons rfl (sub_cons (by show some _=some _; congr 3) sub_nil)))⟩
 ·have hlt:=of_decide_eq_false hlt
  conv=>whnf
  clear hKq Kq
  refine hKq _ _ _ (.refl _) ?_
  clear hKq Kq
  conv=>whnf
  refine VSeq.mk fun Kq hKq=>?_
  conv=>whnf
  refine hKq _ _ _ (.refl _) ?_
  clear hKq Kq
  conv=>whnf
  obtain rfl:j=N:=by omega
  exact ⟨by rw [hmix]; exact hv,hx.trans hxw⟩
theorem cut64 (s:ByteArray):(s.extract 0 (s.size / 64 * 64)).data.toList=s.data.toList.take (s.data.toList.length / 64 * 64):=by
 rw [ext_list,List.drop_zero,toList_len,Nat.sub_zero]
theorem sum_eq (s:ByteArray):outW (mixA KL SL ((s.extract 0 (s.size / 64 * 64))++(⟨((restB s).data.toList++closing (restB s).size s.size).toArray⟩:ByteArray)).data.toList)=sumL2 KL SL s.data.toList:=by
 have hsl:=toList_len s
 rw [ByteArray.toList_data_append,cut64,mixA_app KL _ _ SL (by rw [List.length_take]; omega),mixA_full]
 unfold sumL2 endL
 have hr:(restB s).data.toList=rest s.data.toList:=rfl
 have hz:(restB s).size=(rest s.data.toList).length:=by rw [restB_size,rest_len,hsl]
 rw [hz,hsl]
 rfl
set_option maxHeartbeats 1600000 in
theorem rSum_c {W:World} {tS tK:Value} (s:ByteArray) (hS:SLv W tS (kw .i64 SL)) (hK:SLv W tK (kw .i64 KL)) (hb:s.size≤100000) :
  Calls Tryz.prog 159 #[.agg #[tS,tK],.string s] W fun e w'=>∃ v,e = .returned v∧v = .string (sumB s)∧Ext W w':=by
 obtain ⟨pS,cS,rfl⟩:=hS.shape
 obtain ⟨pK,cK,rfl⟩:=hK.shape
 have hcz:=closing_p (restB s) s.size (by rw [restB_size]; omega) (by omega)
 have hrs:=restB_size s
 have hre:=restB_ext s
 have hcs:=size_extract s 0 (s.size / 64 * 64) (by omega)
 have heq:=sum_eq s
 refine v_fn (args:=[.agg #[.slice pS (kw .i64 SL).length cS,.slice pK (kw .i64 KL).length cK],.string s]) TTok FFok Tryz.func159 rfl (Nat.le_of_ble_eq_true rfl) ?_
 conv=>whnf
 refine VSeq.mk fun Kq hKq=>?_
 conv=>whnf
 have hp:=Hp.nil W
 refine hp.kbox ([.slice pS (kw .i64 SL).length cS,.slice pK (kw .i64 KL).length cK]) rfl fun qt w hp hx=>?_
 conv=>whnf
 refine hKq _ _ _ (.refl _) ?_
 clear hKq Kq
 conv=>whnf
 refine VSeq.mk fun Kq hKq=>?_
 conv=>whnf
 refine And.intro (by omega) ?_
 conv=>whnf
 refine Or.inl (And.intro (by omega) ?_)
 conv=>whnf
 refine hKq _ _ _ (.refl _) ?_
 clear hKq Kq
 conv=>whnf
 refine VSeq.mk fun Kq hKq=>?_
 conv=>whnf
 rw [show ((s.size:Nat):Int) / 64 * 64=((s.size / 64 * 64:Nat):Int) by omega]
 have hqt:Blk w qt [.slice pS (kw .i64 SL).length cS,.slice pK (kw .i64 KL).length cK] 105:=hp.get (i:=0) rfl
 have hS:=hS.ext hx
 have hK:=hK.ext hx
 have hx0:=hx
 clear hp
 repeat clear hp
 have hp:=HpM.nil0 [] w
 refine v_mixA TTok FFok mixed [(0,false),(1,false),(2,false),(3,false),(4,false),(5,false),(6,false),(7,false),(8,false),(9,false),(10,false),(11,false),(12,false),(13,true),(14,true),(15,false)] (by kernel_rfl) ?_
 conv=>whnf
 refine ⟨_,fun w2 hx'=>Blk.ldN (Blk.ext hqt hx') TTok rfl rfl,?_⟩
 conv=>whnf
 refine ⟨_,fun w2 hx'=>Blk.ld (off:=0) (Blk.ext hqt hx') TTok rfl rfl,?_⟩
 conv=>whnf
 refine ⟨s.size / 64 * 64,⟨by first | rfl | omega,by omega⟩,?_⟩
 conv=>whnf
 refine ⟨s.size / 64 * 64,⟨by first | rfl | omega,by omega⟩,?_⟩
 conv=>whnf
 rw [hre]
 first | refine PureF.quiet (hcz) ?_ | refine PureF.quietE (hcz) ?_
 conv=>whnf
 have hlz:(⟨((restB s).data.toList++closing (restB s).size s.size).toArray⟩:ByteArray).size≤1000:=by
  rw [bA_size,List.length_append,toList_len]
  unfold closing be8
  rw [List.length_cons,List.length_append,List.length_replicate,List.length_map,List.length_range]
  omega
 obtain ⟨C,hC⟩:∃ C:ByteArray,⟨((restB s).data.toList++closing (restB s).size s.size).toArray⟩=C:=⟨_,rfl⟩
 rw [hC] at hlz heq ⊢
 obtain ⟨A,hA⟩:∃ A,s.extract 0 (s.size / 64 * 64)=A:=⟨_,rfl⟩
 rw [hA] at hcs heq ⊢
 have hAC:(A++C).size=A.size+C.size:=ByteArray.size_append
 have h8:=mixA_W8 KL SL_W8 (A++C).data.toList
 refine And.intro (by omega) ?_
 conv=>whnf
 intro w hx
 try (have hp:=hp.call hx)
 conv=>whnf
 refine Calls.mono (all_c (W:=w) SL (A++C) (hS.ext hp.ext) (hK.ext hp.ext) (hS.ext hp.ext) SL_W8 (by omega)) ?_
 rintro _ w ⟨v2,rfl,hv2,hx⟩
 refine ⟨_,rfl,?_⟩
 conv=>whnf
 refine And.intro hx ?_
 conv=>whnf
 have hp:=hp.call hx
 intro w hx
 try (have hp:=hp.call hx)
 conv=>whnf
 refine Calls.mono (octets_c (W:=w) (mixA KL SL (A++C).data.toList) (hv2.ext hx) h8.2 h8.1) ?_
 rintro _ w ⟨rfl,hx⟩
 refine ⟨_,rfl,?_⟩
 conv=>whnf
 refine And.intro hx ?_
 conv=>whnf
 have hp:=hp.call hx
 intro w hx
 try (have hp:=hp.call hx)
 conv=>whnf
 refine hKq _ _ _ (.refl _) ?_
 clear hKq Kq
 conv=>whnf
 rw [heq]
 exact ⟨rfl,hx0.trans hp.ext⟩
def hP (M:List Nat) (S:ByteArray) (c:Int) (i:Nat):List Value:=hC (M.take i++List.replicate (8 - i) 0) S c
theorem V.HpM.only {M:List Nat} {w0 w:World} {q e:Nat} {c:List Value} {H:List It} (h:HpM M w0 w (blk q c e :: H)):HpM [q] w w [blk q c e] :=
 ⟨ExtM.refl _ _,fun x hx=>h.ok x (by rw [List.mem_singleton] at hx; subst hx; exact List.mem_cons_self),fun x hx=>h.holds x (by rw [List.mem_singleton] at hx; subst hx; exact List.mem_cons_self),
  fun x hx b hb=>by
   rw [List.mem_singleton] at hx; subst hx
   have hq:q=b:=by injection hb
   subst hq
   exact ⟨.inl List.mem_cons_self,(h.lo _ List.mem_cons_self _ rfl).2⟩,List.pairwise_singleton _ _⟩
set_option maxHeartbeats 1600000 in
theorem rchanged_p (key:ByteArray) (c:UInt8) (hk:key.size≤64):PureF Tryz.prog 160 #[.string key,.int .i64 (c.toNat:Nat)] (.string ⟨(xorK c key.data.toList).toArray⟩):=by
 have hkl:key.data.toList.length=key.size:=by simp
 have hc:=c.toNat_lt
 first | refine v_pure TTok FFok Tryz.func160 rfl rfl fun w0=>?_ | refine v_pure (args:=[]) TTok FFok Tryz.func160 rfl rfl fun w0=>?_
 conv=>whnf
 refine VSeq.mk fun Kq hKq=>?_
 conv=>whnf
 refine hKq _ _ _ (.refl _) ?_
 clear hKq Kq
 conv=>whnf
 refine VSeq.mk fun Kq hKq=>?_
 conv=>whnf
 have hp:=Hp.nil w0
 refine hp.kmkS sl88 z5 64 (by decide) (by unfold maxLen; decide) fun q w hp hx=>?_
 conv=>whnf
 refine hKq _ _ _ (.refl _) ?_
 clear hKq Kq
 conv=>whnf
 refine VSeq.mk fun Kq hKq=>?_
 conv=>whnf
 refine hp.kcopyS sl88 0 rfl key (bytesV key.data.toList) (by rw [List.take_of_length_le (by omega)]) (by rw [bytesV_len,List.length_replicate]; omega) fun w hp=>?_
 simp only [List.set_cons_zero] at hp
 rw [bytesV_rep,bytesV_drop,← bytesV_app,bytesV_len,List.drop_replicate,show key.data.toList++List.replicate (64 - key.data.toList.length) 0=padL key.data.toList from rfl] at hp
 have hpl:=padL_len key.data.toList (by omega)
 have hxk:xorK c key.data.toList=(padL key.data.toList).map (· ^^^ c):=rfl
 obtain ⟨l,hl⟩:∃ l,padL key.data.toList=l:=⟨_,rfl⟩
 rw [hl] at hp hpl hxk
 conv=>whnf
 refine hKq _ _ _ (.refl _) ?_
 clear hKq Kq
 conv=>whnf
 refine VSeq.mk fun Kq hKq=>?_
 conv=>whnf
 refine VSeq.mk fun Kq hKq=>?_
 conv=>whnf
 refine hKq _ _ _ (.refl _) ?_
 clear hKq Kq
 conv=>whnf
 have hp:HpM [] w0 w [blk q (bytesV (mapP (· ^^^ c) l 0)) 5]:=by rw [mapP_zero]; exact hp
 refine ⟨fun m e w'=>∃ (i:Nat),m+i=64∧e=[(1,.v (.int .i64 (c.toNat:Nat))),(5,.v (.slice (some ⟨q,0,none⟩) 64 64)),(6,.v (.int .i64 i))] ∧
   HpM [] w0 w' [blk q (bytesV (mapP (· ^^^ c) l i)) 5],
  ⟨64,_,⟨0,by omega,rfl,hp⟩,sub_cons rfl (sub_cons rfl (sub_cons rfl sub_nil))⟩,?_⟩
 clear hp hx
 repeat clear hp
 rintro m _ w ⟨i,hm,rfl,hp⟩
 conv=>whnf
 refine VSeq.mk fun Kq hKq=>?_
 conv=>whnf
 refine VSeq.mk fun Kq hKq=>?_
 conv=>whnf
 refine hKq _ _ _ (.refl _) ?_
 clear hKq Kq
 conv=>whnf
 refine ⟨fun hlt=>?_,fun hlt=>?_⟩
 ·have hlt:=of_decide_eq_true hlt
  conv=>whnf
  refine hKq _ _ _ (.refl _) ?_
  clear hKq Kq
  conv=>whnf
  refine VSeq.mk fun Kq hKq=>?_
  conv=>whnf
  have hg:=mapP_get (· ^^^ c) l i (by omega)
  have hs:=mapP_set (· ^^^ c) l i (by omega)
  have hml:=mapP_len (· ^^^ c) l i (by omega)
  obtain ⟨x,hxd⟩:∃ x,l.getD i 0=x:=⟨_,rfl⟩
  rw [hxd] at hg hs
  have hx:=x.toNat_lt
  have hxc:x.toNat ^^^ c.toNat=(x ^^^ c).toNat:=(UInt8.toNat_xor _ _).symm
  refine ⟨i,⟨by first | rfl | omega,by omega⟩,?_⟩
  conv=>whnf
  refine ⟨_,_,Blk.ld (hp.get (i:=0) rfl) TTok rfl (bytesV_get hg),?_⟩
  conv=>whnf
  rw [show ((c.toNat:Nat):Int) % 256=((c.toNat:Nat):Int) by omega]
  refine ⟨x.toNat,c.toNat,(x ^^^ c).toNat,⟨by first | rfl | omega,by first | rfl | omega,by omega,by omega⟩,by (dsimp only; exact hxc),?_⟩
  conv=>whnf
  refine ⟨i,⟨by first | rfl | omega,by omega⟩,?_⟩
  conv=>whnf
  refine hp.kst1 (off:=i) TTok (by rfl) 0 (by rfl) (by rfl) (by rfl) (by rw [bytesV_len,hml]; omega) fun w hp=>?_
  try simp only [List.set_cons_zero,List.set_cons_succ,EV.val] at hp
  conv=>whnf
  refine hKq _ _ _ (.refl _) ?_
  clear hKq Kq
  conv=>whnf
  refine Or.inl (And.intro (by omega) ?_)
  conv=>whnf
  rw [bytesV_set' _ _ _ _ rfl,hs] at hp
  exact ⟨m - 1,_,by omega,⟨i+1,by omega,rfl,hp⟩,sub_cons rfl (sub_cons rfl (sub_cons rfl sub_nil))⟩
 ·have hlt:=of_decide_eq_false hlt
  conv=>whnf
  clear hKq Kq
  refine hKq _ _ _ (.refl _) ?_
  clear hKq Kq
  conv=>whnf
  refine VSeq.mk fun Kq hKq=>?_
  conv=>whnf
  obtain rfl:i=l.length:=by omega
  rw [mapP_all,← hxk] at hp
  refine ⟨_,_,Blk.str (l:=xorK c key.data.toList) (hp.get (i:=0) rfl) TTok rfl rfl rfl rfl (by rw [hxk,List.length_map,hpl]),?_⟩
  conv=>whnf
  refine hKq _ _ _ (.refl _) ?_
  clear hKq Kq
  conv=>whnf
  exact ⟨rfl,hp.ext⟩
theorem changed_92 (key:ByteArray) (hk:key.size≤64):PureF Tryz.prog 160 #[.string key,.int .i64 92] (.string ⟨(xorK 92 key.data.toList).toArray⟩):=rchanged_p key 92 hk
theorem changed_54 (key:ByteArray) (hk:key.size≤64):PureF Tryz.prog 160 #[.string key,.int .i64 54] (.string ⟨(xorK 54 key.data.toList).toArray⟩):=rchanged_p key 54 hk
theorem keyL_short (k:List UInt8) (h:k.length≤64):keyL k=k:=by unfold keyL; rw [if_neg (by omega)]
theorem mac_eq (sh s:ByteArray) (hs:sh.size≤64):macB sh s=sumB (⟨(xorK 92 sh.data.toList).toArray⟩++sumB (⟨(xorK 54 sh.data.toList).toArray⟩++s)):=by
 have hsl:=toList_len sh
 apply ba_eq
 show macL sh.data.toList s.data.toList=sumL2 KL SL ((⟨(xorK 92 sh.data.toList).toArray⟩:ByteArray)++sumB (⟨(xorK 54 sh.data.toList).toArray⟩++s)).data.toList
 rw [ByteArray.toList_data_append]
 show _=sumL2 KL SL (xorK 92 sh.data.toList++sumL2 KL SL ((⟨(xorK 54 sh.data.toList).toArray⟩:ByteArray)++s).data.toList)
 rw [ByteArray.toList_data_append]
 unfold macL
 rw [keyL_short sh.data.toList (by omega)]
set_option maxHeartbeats 1600000 in
theorem rMac_c {W:World} {tS tK:Value} (k s:ByteArray) (hS:SLv W tS (kw .i64 SL)) (hK:SLv W tK (kw .i64 KL)) (hk:k.size≤50000) (hs:s.size≤50000) :
  Calls Tryz.prog 133 #[.agg #[tS,tK],.string k,.string s] W fun e w'=>∃ v,e = .returned v∧v = .string (macB k s)∧Ext W w':=by
 obtain ⟨pS,cS,rfl⟩:=hS.shape
 obtain ⟨pK,cK,rfl⟩:=hK.shape
 refine v_fn (args:=[.agg #[.slice pS (kw .i64 SL).length cS,.slice pK (kw .i64 KL).length cK],.string k,.string s]) TTok FFok Tryz.func133 rfl (Nat.le_of_ble_eq_true rfl) ?_
 conv=>whnf
 refine VSeq.mk fun Kq hKq=>?_
 conv=>whnf
 have hp:=Hp.nil W
 refine hp.kbox ([.slice pS (kw .i64 SL).length cS,.slice pK (kw .i64 KL).length cK]) rfl fun qt w hp hx=>?_
 conv=>whnf
 refine hKq _ _ _ (.refl _) ?_
 clear hKq Kq
 conv=>whnf
 refine VSeq.mk fun Kq hKq=>?_
 conv=>whnf
 refine VSeq.mk fun Kq hKq=>?_
 conv=>whnf
 refine hKq _ _ _ (.refl _) ?_
 clear hKq Kq
 conv=>whnf
 have hp:HpM [] W w [blk qt [.slice pS (kw .i64 SL).length cS,.slice pK (kw .i64 KL).length cK] 105]:=hp
 have key2:∀ (w1:World) (sh:ByteArray),HpM [] W w1 [blk qt [.slice pS (kw .i64 SL).length cS,.slice pK (kw .i64 KL).length cK] 105]→sh.size≤64→macB sh s=macB k s →
   ∀ l,V.Sub [(1,.v (.string sh)),(2,.v (.string s)),(3,.v (.pointer (some ⟨qt,0,none⟩)))] l→Kq l w1:=by
  clear hp hx
  repeat clear hp
  intro w sh hp hsh hmac l hsub
  refine hKq _ _ _ hsub ?_
  clear hKq Kq hsub
  conv=>whnf
  refine VSeq.mk fun Kq hKq=>?_
  conv=>whnf
  have h92:=changed_92 sh hsh
  have h54:=changed_54 sh hsh
  have hshl:=toList_len sh
  have l54:=xorK_len 54 sh.data.toList (by omega)
  have l92:=xorK_len 92 sh.data.toList (by omega)
  have heq:=mac_eq sh s hsh
  have hA:=bA_size (xorK 54 sh.data.toList)
  have hB:=bA_size (xorK 92 sh.data.toList)
  rw [l54] at hA
  rw [l92] at hB
  obtain ⟨A,hAd⟩:∃ A:ByteArray,⟨(xorK 54 sh.data.toList).toArray⟩=A:=⟨_,rfl⟩
  obtain ⟨B,hBd⟩:∃ A:ByteArray,⟨(xorK 92 sh.data.toList).toArray⟩=A:=⟨_,rfl⟩
  rw [hAd] at hA h54 heq
  rw [hBd] at hB h92 heq
  have hAs:(A++s).size=A.size+s.size:=ByteArray.size_append
  have hI:=sumB_size (A++s)
  obtain ⟨I,hId⟩:∃ I,sumB (A++s)=I:=⟨_,rfl⟩
  have hBI:(B++I).size=B.size+I.size:=ByteArray.size_append
  rw [hId] at heq hI
  refine v_mixA TTok FFok mixed [(0,false),(1,false),(2,false),(3,false),(4,false),(5,false),(6,false),(7,false),(8,true),(9,false),(10,true),(11,false)] (by kernel_rfl) ?_
  conv=>whnf
  refine ⟨_,fun w' hx'=>Blk.ldN (Blk.ext (hp.get (i:=0) rfl) hx') TTok rfl (rfl),?_⟩
  conv=>whnf
  first | refine PureF.quiet (h92) ?_ | refine PureF.quietE (h92) ?_
  conv=>whnf
  refine ⟨_,fun w' hx'=>Blk.ldN (Blk.ext (hp.get (i:=0) rfl) hx') TTok rfl (rfl),?_⟩
  conv=>whnf
  first | refine PureF.quiet (h54) ?_ | refine PureF.quietE (h54) ?_
  conv=>whnf
  refine And.intro (by omega) ?_
  conv=>whnf
  intro w hx
  try (have hp:=hp.call hx)
  conv=>whnf
  refine Calls.mono (rSum_c (W:=w) (A++s) (hS.ext hp.ext) (hK.ext hp.ext) (by omega)) ?_
  rintro _ w ⟨_,rfl,rfl,hx⟩
  refine ⟨_,rfl,?_⟩
  conv=>whnf
  refine And.intro hx ?_
  conv=>whnf
  have hp:=hp.call hx
  rw [hId]
  refine And.intro (by omega) ?_
  conv=>whnf
  intro w hx
  try (have hp:=hp.call hx)
  conv=>whnf
  refine Calls.mono (rSum_c (W:=w) (B++I) (hS.ext hp.ext) (hK.ext hp.ext) (by omega)) ?_
  rintro _ w ⟨_,rfl,rfl,hx⟩
  refine ⟨_,rfl,?_⟩
  conv=>whnf
  refine And.intro hx ?_
  conv=>whnf
  have hp:=hp.call hx
  intro w hx
  try (have hp:=hp.call hx)
  conv=>whnf
  refine hKq _ _ _ (.refl _) ?_
  clear hKq Kq
  conv=>whnf
  rw [← heq,hmac]
  exact ⟨rfl,hp.ext⟩
 refine ⟨fun hlt=>?_,fun hlt=>?_⟩
 ·have hlt:=of_decide_eq_true hlt
  conv=>whnf
  clear hKq
  refine ⟨_,_,Blk.ldN (hp.get (i:=0) rfl) TTok rfl (rfl),?_⟩
  conv=>whnf
  refine Calls.mono (rSum_c (W:=w) k (hS.ext hp.ext) (hK.ext hp.ext) (by omega)) ?_
  rintro _ w ⟨_,rfl,rfl,hx⟩
  refine ⟨_,rfl,?_⟩
  conv=>whnf
  have hp:=hp.call hx
  refine key2 _ (sumB k) hp (by rw [sumB_size]; decide) ?_ _ (sub_cons rfl (sub_cons rfl (sub_cons rfl sub_nil)))
  apply ba_eq
  show macL (sumL2 KL SL k.data.toList) s.data.toList=macL k.data.toList s.data.toList
  have hkl:=toList_len k
  have e1:keyL k.data.toList=sumL2 KL SL k.data.toList:=by unfold keyL; rw [if_pos (by omega)]
  unfold macL
  rw [e1,keyL_short (sumL2 KL SL k.data.toList) (by rw [sumL2_len]; decide)]
 ·have hlt:=of_decide_eq_false hlt
  conv=>whnf
  clear hKq
  exact key2 _ k hp (by omega) rfl _ (sub_cons rfl (sub_cons rfl (sub_cons rfl sub_nil)))
theorem radd64_x (x y c:Nat):extP Tryz.prog 158 #[.int .u64 x,.int .u64 y,.int .u64 c] (add64Entry #[.int .u64 x,.int .u64 y,.int .u64 c]):=fun w=>by
 rw [run_callFunc_extern (f:=158) (e:=add64Entry) Tryz.func158 (by kernel_rfl) (by kernel_rfl) (by kernel_rfl) (by kernel_rfl),Sem.run_bind]
 rfl
theorem radd64_r (x y c:Nat) (hc:c≤1) (w:World):(add64Entry #[.int .u64 x,.int .u64 y,.int .u64 c]).run Tryz.prog w = .ok (.tuple #[.int .u64 ((x+y+c) % 18446744073709551616:Nat),.int .u64 ((x+y+c) / 18446744073709551616:Nat)]) w:=by
 rw [run_add64 x y c (by omega) (by omega) (by omega) (by omega)]
 congr 4 <;> simp <;> omega
theorem sq_lt8 {x:Nat} (hx:x < 274877906944):x * x < 75557863725914323419136:=Nat.mul_lt_mul'' hx hx
set_option maxHeartbeats 4000000 in
theorem below2 (x p:Nat) (hx:x < 274877906944) (hp31:p < 2147483648):PureF Tryz.prog 132 #[.int .u64 x,.int .u64 p,.int .i64 2] (.bool (sqrE p x)):=by
 have m1:=Mul64_p x x (by omega) (by omega)
 unfold sqrE
 obtain ⟨hi,hhd⟩:∃ hi,x * x / M64=hi:=⟨_,rfl⟩
 obtain ⟨lo,hld⟩:∃ lo,x * x % M64=lo:=⟨_,rfl⟩
 rw [hhd,hld] at m1 ⊢
 clear hhd hld
 first | refine v_pure TTok FFok Tryz.func132 rfl rfl fun w0=>?_ | refine v_pure (args:=[]) TTok FFok Tryz.func132 rfl rfl fun w0=>?_
 conv=>whnf
 refine VSeq.mk fun Kq hKq=>?_
 conv=>whnf
 refine hKq _ _ _ (.refl _) ?_
 clear hKq Kq
 conv=>whnf
 refine VSeq.mk fun Kq hKq=>?_
 conv=>whnf
 have hp:=Hp.nil w0
 refine PureF.use (m1) fun w hx=>?_
 try (have hp:=hp.call hx)
 conv=>whnf
 refine hKq _ _ _ (.refl _) ?_
 clear hKq Kq
 conv=>whnf
 refine VSeq.mk fun Kq hKq=>?_
 conv=>whnf
 refine VSeq.mk fun Kq hKq=>?_
 conv=>whnf
 refine hKq _ _ _ (.refl _) ?_
 clear hKq Kq
 conv=>whnf
 refine And.intro (fun _=>?_) (fun h=>absurd (rfl) (of_decide_eq_false h))
 conv=>whnf
 refine VSeq.mk fun Kq hKq=>?_
 conv=>whnf
 refine VSeq.mk fun Kq hKq=>?_
 conv=>whnf
 refine hKq _ _ _ (.refl _) ?_
 clear hKq Kq
 conv=>whnf
 refine ⟨fun h1=>?_,fun h1=>?_⟩
 ·have h1:=of_decide_eq_true h1
  conv=>whnf
  refine hKq _ _ _ (.refl _) ?_
  clear hKq Kq
  conv=>whnf
  refine ⟨?_,hp.ext⟩
  rw [decide_eq_true (show hi < p by omega),Bool.true_or]
  rfl
 ·have h1:=of_decide_eq_false h1
  conv=>whnf
  refine ⟨fun h2=>?_,fun h2=>?_⟩
  ·have h2:=of_decide_eq_true h2
   conv=>whnf
   refine hKq _ _ _ (.refl _) ?_
   clear hKq Kq
   conv=>whnf
   refine ⟨?_,hp.ext⟩
   rw [decide_eq_false (show ¬ hi < p by omega),Bool.false_or,decide_eq_true (show hi=p by omega),Bool.true_and]
   show Value.bool (decide ((lo:Int)=0))=_
   exact congrArg Value.bool (decide_eq_decide.2 (by omega))
  ·have h2:=of_decide_eq_false h2
   conv=>whnf
   refine hKq _ _ _ (.refl _) ?_
   clear hKq Kq
   conv=>whnf
   refine ⟨?_,hp.ext⟩
   rw [decide_eq_false (show ¬ hi < p by omega),Bool.false_or,decide_eq_false (show ¬ hi=p by omega),Bool.false_and]
   first | rfl | (show Value.bool (decide ((hi:Int)=(p:Int)))=_; exact congrArg Value.bool (decide_eq_false (by omega)))
set_option maxHeartbeats 4000000 in
theorem below3 (x p:Nat) (hx:x < 274877906944) (hp31:p < 2147483648):PureF Tryz.prog 132 #[.int .u64 x,.int .u64 p,.int .i64 3] (.bool (cubE p x)):=by
 have hsq:=sq_lt8 hx
 have m1:=Mul64_p x x (by omega) (by omega)
 have hlo:x * x % M64 < M64:=Nat.mod_lt _ (by decide)
 have hhi:x * x / M64 < 4096:=Nat.div_lt_of_lt_mul (by omega)
 have m2:=Mul64_p (x * x % M64) x (by omega) (by omega)
 have m3:=Mul64_p (x * x / M64) x (by omega) (by omega)
 unfold cubE
 obtain ⟨hi,hhd⟩:∃ hi,x * x / M64=hi:=⟨_,rfl⟩
 obtain ⟨lo,hld⟩:∃ lo,x * x % M64=lo:=⟨_,rfl⟩
 rw [hhd] at m1 m3 hhi ⊢
 rw [hld] at m1 m2 hlo ⊢
 have htop:lo * x / M64 < 274877906944:=Nat.div_lt_of_lt_mul (Nat.mul_lt_mul'' hlo hx)
 obtain ⟨top,htd⟩:∃ top,lo * x / M64=top:=⟨_,rfl⟩
 obtain ⟨a,had⟩:∃ a,lo * x % M64=a:=⟨_,rfl⟩
 rw [htd] at m2 htop ⊢
 rw [had] at m2 ⊢
 have hhx:hi * x < 1125899906842624:=Nat.mul_lt_mul'' hhi hx
 obtain ⟨d,hdd⟩:∃ d,hi * x=d:=⟨_,rfl⟩
 rw [hdd] at hhx m3 ⊢
 rw [show d / 18446744073709551616=0 by omega,show d % 18446744073709551616=d by omega] at m3
 clear hhd hld htd had hsq hlo hdd
 first | refine v_pure TTok FFok Tryz.func132 rfl rfl fun w0=>?_ | refine v_pure (args:=[]) TTok FFok Tryz.func132 rfl rfl fun w0=>?_
 conv=>whnf
 refine VSeq.mk fun Kq hKq=>?_
 conv=>whnf
 refine hKq _ _ _ (.refl _) ?_
 clear hKq Kq
 conv=>whnf
 refine VSeq.mk fun Kq hKq=>?_
 conv=>whnf
 have hp:=Hp.nil w0
 refine PureF.use (m1) fun w hx=>?_
 try (have hp:=hp.call hx)
 conv=>whnf
 refine hKq _ _ _ (.refl _) ?_
 clear hKq Kq
 conv=>whnf
 refine VSeq.mk fun Kq hKq=>?_
 conv=>whnf
 refine VSeq.mk fun Kq hKq=>?_
 conv=>whnf
 refine hKq _ _ _ (.refl _) ?_
 clear hKq Kq
 conv=>whnf
 refine And.intro (fun h=>absurd (of_decide_eq_true h) ((by decide))) (fun _=>?_)
 conv=>whnf
 refine hKq _ _ _ (.refl _) ?_
 clear hKq Kq
 conv=>whnf
 refine VSeq.mk fun Kq hKq=>?_
 conv=>whnf
 refine PureF.use (m2) fun w hx=>?_
 try (have hp:=hp.call hx)
 conv=>whnf
 refine hKq _ _ _ (.refl _) ?_
 clear hKq Kq
 conv=>whnf
 refine VSeq.mk fun Kq hKq=>?_
 conv=>whnf
 refine PureF.use (m3) fun w hx=>?_
 try (have hp:=hp.call hx)
 conv=>whnf
 refine hKq _ _ _ (.refl _) ?_
 clear hKq Kq
 conv=>whnf
 refine VSeq.mk fun Kq hKq=>?_
 conv=>whnf
 refine ⟨_,radd64_x top d 0,_,_,radd64_r top d 0 (by decide) _,?_⟩
 rw [show (top+d+0) / 18446744073709551616=0 by omega,show (top+d+0) % 18446744073709551616=d+top by omega]
 conv=>whnf
 refine hKq _ _ _ (.refl _) ?_
 clear hKq Kq
 conv=>whnf
 refine VSeq.mk fun Kq hKq=>?_
 conv=>whnf
 refine hKq _ _ _ (.refl _) ?_
 clear hKq Kq
 conv=>whnf
 refine VSeq.mk fun Kq hKq=>?_
 conv=>whnf
 refine VSeq.mk fun Kq hKq=>?_
 conv=>whnf
 refine hKq _ _ _ (.refl _) ?_
 clear hKq Kq
 conv=>whnf
 refine And.intro (fun _=>?_) (fun h=>absurd (rfl) (of_decide_eq_false h))
 conv=>whnf
 refine ⟨32,⟨by first | rfl | omega,by omega⟩,?_⟩
 conv=>whnf
 have hpe:((p:Nat):Int) * 2 ^ 32 % 18446744073709551616=((p * 4294967296:Nat):Int):=by omega
 rw [hpe]
 obtain ⟨Y,hY⟩:∃ Y,d+top=Y:=⟨_,rfl⟩
 obtain ⟨Q,hQ⟩:∃ Q,p * 4294967296=Q:=⟨_,rfl⟩
 rw [hQ] at hpe
 rw [hY,hQ]
 refine ⟨fun h1=>?_,fun h1=>?_⟩
 ·have h1:=of_decide_eq_true h1
  conv=>whnf
  refine hKq _ _ _ (.refl _) ?_
  clear hKq Kq
  conv=>whnf
  refine ⟨?_,hp.ext⟩
  rw [hY,hQ,decide_eq_true (show Y < Q by omega),Bool.true_or]
  rfl
 ·have h1:=of_decide_eq_false h1
  conv=>whnf
  refine ⟨32,⟨by first | rfl | omega,by omega⟩,?_⟩
  conv=>whnf
  rw [hpe]
  refine ⟨fun h2=>?_,fun h2=>?_⟩
  ·have h2:=of_decide_eq_true h2
   conv=>whnf
   refine hKq _ _ _ (.refl _) ?_
   clear hKq Kq
   conv=>whnf
   refine ⟨?_,hp.ext⟩
   rw [hY,hQ,decide_eq_false (show ¬ Y < Q by omega),Bool.false_or,decide_eq_true (show Y=Q by omega),Bool.true_and]
   show Value.bool (decide ((a:Int)=0))=_
   exact congrArg Value.bool (decide_eq_decide.2 (by omega))
  ·have h2:=of_decide_eq_false h2
   conv=>whnf
   refine hKq _ _ _ (.refl _) ?_
   clear hKq Kq
   conv=>whnf
   refine ⟨?_,hp.ext⟩
   rw [hY,hQ,decide_eq_false (show ¬ Y < Q by omega),Bool.false_or,decide_eq_false (show ¬ Y=Q by omega),Bool.false_and]
   first | rfl | (show Value.bool (decide ((Y:Int)=(Q:Int)))=_; exact congrArg Value.bool (decide_eq_false (by omega)))
/-- the greatest number below, by halves -/
def rbJ (E:Nat→Bool):Nat→Nat
 | 0=>0
 | j+1=>if E (rbJ E j+2 ^ (37 - j))=true then rbJ E j+2 ^ (37 - j) else rbJ E j
theorem rbJ_le (E:Nat→Bool):∀ j,j≤38→rbJ E j+2 ^ (38 - j)≤274877906944
 | 0,_=>by rw [rbJ]; decide
 | j+1,h=>by
  have ih:=rbJ_le E j (by omega)
  have e:2 ^ (38 - j)=2 ^ (37 - j)+2 ^ (37 - j):=by rw [show 38 - j=(37 - j)+1 by omega,Nat.pow_succ]; omega
  rw [rbJ,show 38 - (j+1)=37 - j by omega]
  obtain ⟨c,hc⟩:∃ c,2 ^ (37 - j)=c:=⟨_,rfl⟩
  rw [hc] at e ⊢
  rw [e] at ih
  split <;> omega
def rbN (E:Nat→Bool):Nat:=rbJ E 38 % 4294967296
set_option maxHeartbeats 12800000 in
theorem root3 (p:Nat) (hp31:p < 2147483648):PureF Tryz.prog 100 #[.int .i64 p,.int .i64 3] (.int .i64 (rbN (cubE p))):=by
 obtain ⟨E,hE⟩:∃ E,cubE p=E:=⟨_,rfl⟩
 have hb:∀ x:Nat,x < 274877906944→PureF Tryz.prog 132 #[.int .u64 x,.int .u64 p,.int .i64 3] (.bool (E x)):=fun x hx=>by rw [← hE]; exact below3 x p hx hp31
 rw [hE]
 first | refine v_pure TTok FFok Tryz.func100 rfl rfl fun w0=>?_ | refine v_pure (args:=[]) TTok FFok Tryz.func100 rfl rfl fun w0=>?_
 conv=>whnf
 refine VSeq.mk fun Kq hKq=>?_
 conv=>whnf
 refine hKq _ _ _ (.refl _) ?_
 clear hKq Kq
 conv=>whnf
 refine VSeq.mk fun Kq hKq=>?_
 conv=>whnf
 refine hKq _ _ _ (.refl _) ?_
 clear hKq Kq
 conv=>whnf
 refine VSeq.mk fun Kq hKq=>?_
 conv=>whnf
 have hp:=Hp.nil w0
 refine ⟨fun mm e w'=>∃ (j l h:Nat),mm+j=38∧l=rbJ E j∧h=l+2 ^ (38 - j)∧e=[(0,.v (.int .i64 p)),(1,.v (.int .i64 3)),(5,.v (.int .u64 l)),(6,.v (.int .u64 h))]∧HpM [] w0 w' [],
   ⟨38,_,⟨0,0,274877906944,by omega,rfl,by decide,rfl,hp⟩,sub_cons rfl (sub_cons rfl (sub_cons rfl (sub_cons rfl sub_nil)))⟩,?_⟩
 clear hp
 repeat clear hp
 rintro mm _ w ⟨j,l,h,hmm,hl,hh,rfl,hp⟩
 have hle:=rbJ_le E j (by omega)
 rw [← hl,← hh] at hle
 have hpos:0 < 2 ^ (38 - j):=Nat.pow_pos (by decide)
 have hle1:l < 274877906944:=by omega
 have hhe:h≤274877906944:=by omega
 conv=>whnf
 refine VSeq.mk fun Kq hKq=>?_
 conv=>whnf
 refine VSeq.mk fun Kq hKq=>?_
 conv=>whnf
 refine hKq _ _ _ (.refl _) ?_
 clear hKq Kq
 conv=>whnf
 rw [show (((l:Nat):Int)+1) % 18446744073709551616=((l+1:Nat):Int) by omega]
 refine ⟨fun hlt=>?_,fun hlt=>?_⟩
 ·have hlt:=of_decide_eq_true hlt
  conv=>whnf
  refine hKq _ _ _ (.refl _) ?_
  clear hKq Kq
  conv=>whnf
  refine VSeq.mk fun Kq hKq=>?_
  conv=>whnf
  refine And.intro (by omega) ?_
  conv=>whnf
  refine hKq _ _ _ (.refl _) ?_
  clear hKq Kq
  conv=>whnf
  refine VSeq.mk fun Kq hKq=>?_
  conv=>whnf
  refine And.intro (by omega) ?_
  conv=>whnf
  have hj:j < 38:=by
   rcases Nat.lt_or_ge j 38 with h1 | h1
   ·exact h1
   ·obtain rfl:j=38:=by omega
    rw [Nat.sub_self,Nat.pow_zero] at hh
    omega
  obtain ⟨c,hc⟩:∃ c,2 ^ (37 - j)=c:=⟨_,rfl⟩
  have e:2 ^ (38 - j)=c+c:=by rw [← hc,show 38 - j=(37 - j)+1 by omega,Nat.pow_succ]; omega
  have hc2:2 ^ (38 - (j+1))=c:=by rw [← hc]; congr 1; omega
  have hst:rbJ E (j+1)=if E (l+c)=true then l+c else l:=by rw [rbJ,hc,← hl]
  rw [e] at hh hpos
  have hcl:c < 274877906944:=by omega
  clear e hle hc
  have hm:(((l:Nat):Int)+((h:Nat):Int)) % 18446744073709551616 / 2=((l+c:Nat):Int):=by omega
  rw [hm]
  refine PureF.use (hb (l+c) (by omega)) fun w hx=>?_
  try (have hp:=hp.call hx)
  conv=>whnf
  refine hKq _ _ _ (.refl _) ?_
  clear hKq Kq
  conv=>whnf
  cases hEv:E (l+c) with
  | true =>
   rw [hEv,if_pos rfl] at hst
   refine And.intro (fun _=>?_) (fun h=>by cases h)
   conv=>whnf
   exact ⟨mm - 1,_,by omega,⟨j+1,l+c,h,by omega,hst.symm,by rw [hc2]; omega,rfl,hp⟩,sub_cons rfl (sub_cons rfl (sub_cons rfl (sub_cons rfl sub_nil)))⟩
  | false =>
   rw [hEv,if_neg (by decide)] at hst
   refine And.intro (fun h=>by cases h) (fun _=>?_)
   conv=>whnf
   exact ⟨mm - 1,_,by omega,⟨j+1,l,l+c,by omega,hst.symm,by rw [hc2],rfl,hp⟩,sub_cons rfl (sub_cons rfl (sub_cons rfl (sub_cons rfl sub_nil)))⟩
 ·have hlt:=of_decide_eq_false hlt
  conv=>whnf
  clear hKq Kq
  refine hKq _ _ _ (.refl _) ?_
  clear hKq Kq
  conv=>whnf
  refine VSeq.mk fun Kq hKq=>?_
  conv=>whnf
  refine And.intro (by omega) ?_
  conv=>whnf
  refine Or.inl (And.intro (by omega) ?_)
  conv=>whnf
  refine hKq _ _ _ (.refl _) ?_
  clear hKq Kq
  conv=>whnf
  have hj:j=38:=by
   rcases Nat.lt_or_ge j 38 with h1 | h1
   ·have e:2 ^ (38 - j)=2 ^ (37 - j)+2 ^ (37 - j):=by rw [show 38 - j=(37 - j)+1 by omega,Nat.pow_succ]; omega
    have hp2:0 < 2 ^ (37 - j):=Nat.pow_pos (by decide)
    omega
   ·omega
  subst hj
  unfold rbN
  rw [← hl]
  refine ⟨?_,hp.ext⟩
  show Value.int .i64 _=Value.int .i64 _
  congr 1
set_option maxHeartbeats 12800000 in
theorem root2 (p:Nat) (hp31:p < 2147483648):PureF Tryz.prog 100 #[.int .i64 p,.int .i64 2] (.int .i64 (rbN (sqrE p))):=by
 obtain ⟨E,hE⟩:∃ E,sqrE p=E:=⟨_,rfl⟩
 have hb:∀ x:Nat,x < 274877906944→PureF Tryz.prog 132 #[.int .u64 x,.int .u64 p,.int .i64 2] (.bool (E x)):=fun x hx=>by rw [← hE]; exact below2 x p hx hp31
 rw [hE]
 first | refine v_pure TTok FFok Tryz.func100 rfl rfl fun w0=>?_ | refine v_pure (args:=[]) TTok FFok Tryz.func100 rfl rfl fun w0=>?_
 conv=>whnf
 refine VSeq.mk fun Kq hKq=>?_
 conv=>whnf
 refine hKq _ _ _ (.refl _) ?_
 clear hKq Kq
 conv=>whnf
 refine VSeq.mk fun Kq hKq=>?_
 conv=>whnf
 refine hKq _ _ _ (.refl _) ?_
 clear hKq Kq
 conv=>whnf
 refine VSeq.mk fun Kq hKq=>?_
 conv=>whnf
 have hp:=Hp.nil w0
 refine ⟨fun mm e w'=>∃ (j l h:Nat),mm+j=38∧l=rbJ E j∧h=l+2 ^ (38 - j)∧e=[(0,.v (.int .i64 p)),(1,.v (.int .i64 2)),(5,.v (.int .u64 l)),(6,.v (.int .u64 h))]∧HpM [] w0 w' [],
   ⟨38,_,⟨0,0,274877906944,by omega,rfl,by decide,rfl,hp⟩,sub_cons rfl (sub_cons rfl (sub_cons rfl (sub_cons rfl sub_nil)))⟩,?_⟩
 clear hp
 repeat clear hp
 rintro mm _ w ⟨j,l,h,hmm,hl,hh,rfl,hp⟩
 have hle:=rbJ_le E j (by omega)
 rw [← hl,← hh] at hle
 have hpos:0 < 2 ^ (38 - j):=Nat.pow_pos (by decide)
 have hle1:l < 274877906944:=by omega
 have hhe:h≤274877906944:=by omega
 conv=>whnf
 refine VSeq.mk fun Kq hKq=>?_
 conv=>whnf
 refine VSeq.mk fun Kq hKq=>?_
 conv=>whnf
 refine hKq _ _ _ (.refl _) ?_
 clear hKq Kq
 conv=>whnf
 rw [show (((l:Nat):Int)+1) % 18446744073709551616=((l+1:Nat):Int) by omega]
 refine ⟨fun hlt=>?_,fun hlt=>?_⟩
 ·have hlt:=of_decide_eq_true hlt
  conv=>whnf
  refine hKq _ _ _ (.refl _) ?_
  clear hKq Kq
  conv=>whnf
  refine VSeq.mk fun Kq hKq=>?_
  conv=>whnf
  refine And.intro (by omega) ?_
  conv=>whnf
  refine hKq _ _ _ (.refl _) ?_
  clear hKq Kq
  conv=>whnf
  refine VSeq.mk fun Kq hKq=>?_
  conv=>whnf
  refine And.intro (by omega) ?_
  conv=>whnf
  have hj:j < 38:=by
   rcases Nat.lt_or_ge j 38 with h1 | h1
   ·exact h1
   ·obtain rfl:j=38:=by omega
    rw [Nat.sub_self,Nat.pow_zero] at hh
    omega
  obtain ⟨c,hc⟩:∃ c,2 ^ (37 - j)=c:=⟨_,rfl⟩
  have e:2 ^ (38 - j)=c+c:=by rw [← hc,show 38 - j=(37 - j)+1 by omega,Nat.pow_succ]; omega
  have hc2:2 ^ (38 - (j+1))=c:=by rw [← hc]; congr 1; omega
  have hst:rbJ E (j+1)=if E (l+c)=true then l+c else l:=by rw [rbJ,hc,← hl]
  rw [e] at hh hpos
  have hcl:c < 274877906944:=by omega
  clear e hle hc
  have hm:(((l:Nat):Int)+((h:Nat):Int)) % 18446744073709551616 / 2=((l+c:Nat):Int):=by omega
  rw [hm]
  refine PureF.use (hb (l+c) (by omega)) fun w hx=>?_
  try (have hp:=hp.call hx)
  conv=>whnf
  refine hKq _ _ _ (.refl _) ?_
  clear hKq Kq
  conv=>whnf
  cases hEv:E (l+c) with
  | true =>
   rw [hEv,if_pos rfl] at hst
   refine And.intro (fun _=>?_) (fun h=>by cases h)
   conv=>whnf
   exact ⟨mm - 1,_,by omega,⟨j+1,l+c,h,by omega,hst.symm,by rw [hc2]; omega,rfl,hp⟩,sub_cons rfl (sub_cons rfl (sub_cons rfl (sub_cons rfl sub_nil)))⟩
  | false =>
   rw [hEv,if_neg (by decide)] at hst
   refine And.intro (fun h=>by cases h) (fun _=>?_)
   conv=>whnf
   exact ⟨mm - 1,_,by omega,⟨j+1,l,l+c,by omega,hst.symm,by rw [hc2],rfl,hp⟩,sub_cons rfl (sub_cons rfl (sub_cons rfl (sub_cons rfl sub_nil)))⟩
 ·have hlt:=of_decide_eq_false hlt
  conv=>whnf
  clear hKq Kq
  refine hKq _ _ _ (.refl _) ?_
  clear hKq Kq
  conv=>whnf
  refine VSeq.mk fun Kq hKq=>?_
  conv=>whnf
  refine And.intro (by omega) ?_
  conv=>whnf
  refine Or.inl (And.intro (by omega) ?_)
  conv=>whnf
  refine hKq _ _ _ (.refl _) ?_
  clear hKq Kq
  conv=>whnf
  have hj:j=38:=by
   rcases Nat.lt_or_ge j 38 with h1 | h1
   ·have e:2 ^ (38 - j)=2 ^ (37 - j)+2 ^ (37 - j):=by rw [show 38 - j=(37 - j)+1 by omega,Nat.pow_succ]; omega
    have hp2:0 < 2 ^ (37 - j):=Nat.pow_pos (by decide)
    omega
   ·omega
  subst hj
  unfold rbN
  rw [← hl]
  refine ⟨?_,hp.ext⟩
  show Value.int .i64 _=Value.int .i64 _
  congr 1
/-- the primes that are found among the first numbers from 2 on -/
def prJ:Nat→List Nat
 | 0=>[]
 | k+1=>if (prJ k).all (fun q=>decide ((k+2) % q≠0))=true then prJ k++[k+2] else prJ k
theorem prJ_pos:∀ k,∀ q∈prJ k,2≤q∧q < k+2
 | 0=>by intro q hq; cases hq
 | k+1=>by
  intro q hq
  rw [prJ] at hq
  split at hq
  ·rcases List.mem_append.1 hq with h | h
   ·have:=prJ_pos k q h; omega
   ·rw [List.mem_singleton] at h; omega
  ·have:=prJ_pos k q hq; omega
def PL:List Nat:=prJ 310
theorem prJ_cnt:∀ k,k < 310→(prJ k).length < 64:=by decide +kernel
theorem PL_len:PL.length=64:=by decide +kernel
theorem PL_lt:∀ q∈PL,q < 2147483648:=fun q hq=>by have:=prJ_pos 310 q hq; omega
theorem root3_tab:∀ i,i < 64→rbN (cubE (PL.getD i 0))=KL.getD i 0:=by decide +kernel
theorem root2_tab:∀ i,i < 8→rbN (sqrE (PL.getD i 0))=SL.getD i 0:=by decide +kernel
theorem all_take (L:List Nat) (f:Nat→Bool) (i:Nat) (h:i < L.length):(L.take (i+1)).all f=((L.take i).all f && f (L.getD i 0)):=by
 rw [List.take_add_one,List.getD_eq_getElem?_getD,List.getElem?_eq_getElem h,List.all_append]
 simp
set_option maxHeartbeats 12800000 in
theorem primes_f:MakesF Tryz.prog 99 #[.int .i64 64] fun v=>[row 3 1 v 64 (kw .i64 PL)]:=by
 first | refine v_makes TTok FFok Tryz.func99 rfl rfl fun w0=>?_ | refine v_makes (args:=[]) TTok FFok Tryz.func99 rfl rfl fun w0=>?_
 conv=>whnf
 refine VSeq.mk fun Kq hKq=>?_
 conv=>whnf
 refine hKq _ _ _ (.refl _) ?_
 clear hKq Kq
 conv=>whnf
 refine VSeq.mk fun Kq hKq=>?_
 conv=>whnf
 refine hKq _ _ _ (.refl _) ?_
 clear hKq Kq
 conv=>whnf
 refine VSeq.mk fun Kq hKq=>?_
 conv=>whnf
 refine VSeq.mk fun Kq hKq=>?_
 conv=>whnf
 refine hKq _ _ _ (.refl _) ?_
 clear hKq Kq
 conv=>whnf
 have hp:=Hp.nil w0
 have hp:=hp.knil 3 1
 have hp:HpM [] w0 w0 [row 3 1 (.slice none 0 0) (prJ 0).length (kw .i64 (prJ 0))]:=hp
 refine ⟨fun mm e w'=>∃ (k:Nat) (v:Value),mm+k=310∧e=[(0,.v (.int .i64 64)),(3,.v v),(4,.v (.int .i64 (k+2:Nat)))]∧HpM [] w0 w' [row 3 1 v (prJ k).length (kw .i64 (prJ k))],
   ⟨310,_,⟨0,_,by omega,rfl,hp⟩,sub_cons rfl (sub_cons rfl (sub_cons rfl sub_nil))⟩,?_⟩
 clear hp
 repeat clear hp
 rintro mm _ w ⟨k,v,hmm,rfl,hp⟩
 have hv:=SLv.of_row (hp.get (i:=0) rfl)
 have hkl:(kw .i64 (prJ k)).length=(prJ k).length:=kw_len _ _
 obtain ⟨p,c,rfl⟩:=hv.shape
 conv=>whnf
 refine VSeq.mk fun Kq hKq=>?_
 conv=>whnf
 refine VSeq.mk fun Kq hKq=>?_
 conv=>whnf
 refine hKq _ _ _ (.refl _) ?_
 clear hKq Kq
 conv=>whnf
 rw [hkl]
 refine ⟨fun hlt=>?_,fun hlt=>?_⟩
 ·have hlt:=of_decide_eq_true hlt
  conv=>whnf
  refine hKq _ _ _ (.refl _) ?_
  clear hKq Kq
  conv=>whnf
  refine VSeq.mk fun Kq hKq=>?_
  conv=>whnf
  refine VSeq.mk fun Kq hKq=>?_
  conv=>whnf
  refine hKq _ _ _ (.refl _) ?_
  clear hKq Kq
  conv=>whnf
  refine VSeq.mk fun Kq hKq=>?_
  conv=>whnf
  refine VSeq.mk fun Kq hKq=>?_
  conv=>whnf
  refine hKq _ _ _ (.refl _) ?_
  clear hKq Kq
  conv=>whnf
  have hk:k < 310:=by
   rcases Nat.lt_or_ge k 310 with h | h
   ·exact h
   ·obtain rfl:k=310:=by omega
    have:=PL_len
    unfold PL at this
    omega
  have hpos:=prJ_pos k
  have hstep:prJ (k+1)=if (prJ k).all (fun q=>decide ((k+2) % q≠0))=true then prJ k++[k+2] else prJ k:=rfl
  obtain ⟨f,hf⟩:∃ f:Nat→Bool,f=fun q=>decide ((k+2) % q≠0):=⟨_,rfl⟩
  rw [← hf] at hstep
  rw [hkl] at hp hv
  obtain ⟨L,hL⟩:∃ L,prJ k=L:=⟨_,rfl⟩
  rw [hL] at hp hv hkl hlt hpos hstep ⊢
  obtain ⟨n,hn⟩:∃ n,L.length=n:=⟨_,rfl⟩
  rw [hn] at hp hv hkl hlt ⊢
  refine ⟨fun m2 e w'=>∃ (i:Nat) (b:Bool),m2+i=n∧b=(L.take i).all f∧e=[(0,.v (.int .i64 64)),(3,.v (.slice p n c)),(4,.v (.int .i64 (k+2:Nat))),(5,litE (.bool b)),(6,.v (.int .i64 i))]∧HpM [] w0 w' [row 3 1 (.slice p n c) n (kw .i64 L)],
    ⟨n,_,⟨0,true,by omega,rfl,rfl,hp⟩,sub_cons rfl (sub_cons rfl (sub_cons rfl (sub_cons rfl (sub_cons rfl sub_nil))))⟩,?_⟩
  clear hp hv
  repeat clear hp
  rintro m2 _ w ⟨i,b,hm2,hb,rfl,hp⟩
  have hv:=SLv.of_row (hp.get (i:=0) rfl)
  conv=>whnf
  refine VSeq.mk fun Kq hKq=>?_
  conv=>whnf
  refine VSeq.mk fun Kq hKq=>?_
  conv=>whnf
  refine hKq _ _ _ (.refl _) ?_
  clear hKq Kq
  conv=>whnf
  refine ⟨fun hlt2=>?_,fun hlt2=>?_⟩
  ·have hlt2:=of_decide_eq_true hlt2
   conv=>whnf
   refine hKq _ _ _ (.refl _) ?_
   clear hKq Kq
   conv=>whnf
   refine VSeq.mk fun Kq hKq=>?_
   conv=>whnf
   refine VSeq.mk fun Kq hKq=>?_
   conv=>whnf
   have hi:i < L.length:=by omega
   have hat:=all_take L f i hi
   have hqm:L.getD i 0∈L:=by rw [List.getD_eq_getElem?_getD,List.getElem?_eq_getElem hi]; exact List.getElem_mem hi
   have hq:=hpos _ hqm
   have hfq:f (L.getD i 0)=decide ((k+2) % L.getD i 0≠0):=by rw [hf]
   obtain ⟨g,off,rfl,c1⟩:=hv.at (getk (L:=L) (i:=i) hi)
   obtain ⟨q,hqd⟩:∃ q,L.getD i 0=q:=⟨_,rfl⟩
   rw [hqd] at hat hq hfq c1
   refine ⟨i,⟨by first | rfl | omega,by omega⟩,?_⟩
   conv=>whnf
   refine ⟨_,_,run_ld TTok rfl (by rw [addM_eq,Nat.mul_one]; exact c1),?_⟩
   conv=>whnf
   refine And.intro (by omega) ?_
   conv=>whnf
   refine hKq _ _ _ (.refl _) ?_
   clear hKq Kq
   conv=>whnf
   have hmod:((k+2:Nat):Int) % ((q:Nat):Int)=(((k+2) % q:Nat):Int):=rfl
   rw [hmod]
   refine ⟨fun h0=>?_,fun h0=>?_⟩
   ·have h0:=of_decide_eq_true h0
    conv=>whnf
    refine hKq _ _ _ (.refl _) ?_
    clear hKq Kq
    conv=>whnf
    refine Or.inl (And.intro (by omega) ?_)
    conv=>whnf
    have hz:(k+2) % q=0:=by omega
    cases b <;> exact ⟨m2 - 1,_,by omega,⟨i+1,false,by omega,by rw [hat,hfq,hz]; simp,rfl,hp⟩,sub_cons rfl (sub_cons rfl (sub_cons rfl (sub_cons rfl (sub_cons rfl sub_nil))))⟩
   ·have h0:=of_decide_eq_false h0
    conv=>whnf
    refine hKq _ _ _ (.refl _) ?_
    clear hKq Kq
    conv=>whnf
    refine Or.inl (And.intro (by omega) ?_)
    conv=>whnf
    have hz:(k+2) % q≠0:=by omega
    have hat2:(L.take (i+1)).all f=(L.take i).all f:=by rw [hat,hfq,decide_eq_true hz,Bool.and_true]
    rw [← hat2] at hb
    cases b with
    | true=>exact ⟨m2 - 1,_,by omega,⟨i+1,true,by omega,hb,rfl,hp⟩,sub_cons rfl (sub_cons rfl (sub_cons rfl (sub_cons rfl (sub_cons rfl sub_nil))))⟩
    | false=>exact ⟨m2 - 1,_,by omega,⟨i+1,false,by omega,hb,rfl,hp⟩,sub_cons rfl (sub_cons rfl (sub_cons rfl (sub_cons rfl (sub_cons rfl sub_nil))))⟩
  ·have hlt2:=of_decide_eq_false hlt2
   conv=>whnf
   clear hKq Kq
   refine hKq _ _ _ (.refl _) ?_
   clear hKq Kq
   conv=>whnf
   refine VSeq.mk fun Kq hKq=>?_
   conv=>whnf
   have hi:i=L.length:=by omega
   rw [hi,List.take_of_length_le (Nat.le_refl _)] at hb
   cases b with
   | true =>
    rw [if_pos hb.symm] at hstep
    conv=>whnf
    refine hKq _ _ _ (.refl _) ?_
    clear hKq Kq
    conv=>whnf
    refine hp.kmade (kw .i64 [k+2]) 3 (fun b=>.slice (some ⟨b,0,none⟩) 1 1) (by kernel_rfl) fun tb w hp hx=>?_
    conv=>whnf
    refine hp.kapp sl48 1 rfl (Blk.src TTok (hp.get (i:=0) rfl) rfl rfl (kw_one _ _)) (by omega) (by unfold maxLen; omega) fun v' w hp=>?_
    simp only [List.set_cons_zero,List.set_cons_succ] at hp
    rw [← kw_app,← hstep] at hp
    have hln:(prJ (k+1)).length=n+1:=by rw [hstep,List.length_append,hn]; rfl
    conv=>whnf
    refine hKq _ _ _ (.refl _) ?_
    clear hKq Kq
    conv=>whnf
    refine Or.inl (And.intro (by omega) ?_)
    conv=>whnf
    exact ⟨mm - 1,_,by omega,⟨k+1,v',by omega,rfl,by rw [hln]; exact hp.tail⟩,sub_cons rfl (sub_cons rfl (sub_cons rfl sub_nil))⟩
   | false =>
    rw [if_neg (by rw [← hb]; decide)] at hstep
    conv=>whnf
    refine hKq _ _ _ (.refl _) ?_
    clear hKq Kq
    conv=>whnf
    refine hKq _ _ _ (.refl _) ?_
    clear hKq Kq
    conv=>whnf
    refine Or.inl (And.intro (by omega) ?_)
    conv=>whnf
    exact ⟨mm - 1,_,by omega,⟨k+1,_,by omega,rfl,by rw [hstep,hn]; exact hp⟩,sub_cons rfl (sub_cons rfl (sub_cons rfl sub_nil))⟩
 ·have hlt:=of_decide_eq_false hlt
  conv=>whnf
  clear hKq Kq
  refine hKq _ _ _ (.refl _) ?_
  clear hKq Kq
  conv=>whnf
  refine VSeq.mk fun Kq hKq=>?_
  conv=>whnf
  refine hKq _ _ _ (.refl _) ?_
  clear hKq Kq
  conv=>whnf
  have hk:k=310:=by
   rcases Nat.lt_or_ge k 310 with h | h
   ·have:=prJ_cnt k h; omega
   ·omega
  subst hk
  rw [hkl] at hp
  have e:(prJ 310).length=64:=PL_len
  rw [e] at hp ⊢
  exact hp
theorem take_next (L:List Nat) (i:Nat) (h:i < L.length):L.take (i+1)=L.take i++[L.getD i 0]:=by
 rw [List.take_add_one,List.getD_eq_getElem?_getD,List.getElem?_eq_getElem h]; rfl
set_option maxHeartbeats 3200000 in
theorem rConst_c {W:World}:Calls Tryz.prog 49 #[] W fun e w'=>∃ v,e = .returned v∧(∃ vS vK,v = .agg #[vS,vK]∧SLv w' vS (kw .i64 SL)∧SLv w' vK (kw .i64 KL))∧Ext W w':=by
 refine v_fn (args:=[]) TTok FFok Tryz.func49 rfl (Nat.le_of_ble_eq_true rfl) ?_
 conv=>whnf
 refine VSeq.mk fun Kq hKq=>?_
 conv=>whnf
 have hp:=Hp.nil W
 refine hp.kalloc z105 fun q0 w hp hx=>?_
 conv=>whnf
 refine hKq _ _ _ (.refl _) ?_
 clear hKq Kq
 conv=>whnf
 refine VSeq.mk fun Kq hKq=>?_
 conv=>whnf
 refine hp.kalloc z105 fun q1 w hp hx=>?_
 conv=>whnf
 refine hKq _ _ _ (.refl _) ?_
 clear hKq Kq
 conv=>whnf
 refine VSeq.mk fun Kq hKq=>?_
 conv=>whnf
 refine MakesF.use (primes_f) hp fun vl w hp hx=>?_
 simp only [List.cons_append,List.nil_append] at hp
 conv=>whnf
 refine hKq _ _ _ (.refl _) ?_
 clear hKq Kq
 conv=>whnf
 refine VSeq.mk fun Kq hKq=>?_
 conv=>whnf
 refine VSeq.mk fun Kq hKq=>?_
 conv=>whnf
 refine hKq _ _ _ (.refl _) ?_
 clear hKq Kq
 conv=>whnf
 have hvl:=SLv.of_row (hp.get (i:=0) rfl)
 have hPl:(kw .i64 PL).length=64:=by rw [kw_len,PL_len]
 obtain ⟨pl,cl,rfl⟩:=hvl.shape
 rw [hPl] at hp hvl ⊢
 have hp:=(hp.knil 3 1).knil 3 1
 have hp:HpM [] W w [row 3 1 (.slice none 0 0) 0 (kw .i64 (KL.take 0)),row 3 1 (.slice none 0 0) (min 0 8) (kw .i64 (SL.take 0)),row 3 1 (.slice pl 64 cl) 64 (kw .i64 PL),blk q1 [.slice none 0 0,.slice none 0 0] 105,blk q0 [.slice none 0 0,.slice none 0 0] 105]:=hp
 refine ⟨fun mm e w'=>∃ (i:Nat) (vS vK:Value),mm+i=64∧e=[(0,.v (.pointer (some ⟨q0,0,none⟩))),(1,.v (.pointer (some ⟨q1,0,none⟩))),(2,.v (.slice pl 64 cl)),(3,.v (.int .i64 i))] ∧
   HpM [] W w' [row 3 1 vK i (kw .i64 (KL.take i)),row 3 1 vS (min i 8) (kw .i64 (SL.take i)),row 3 1 (.slice pl 64 cl) 64 (kw .i64 PL),blk q1 [vS,vK] 105,blk q0 [.slice none 0 0,.slice none 0 0] 105],
   ⟨64,_,⟨0,_,_,by omega,rfl,hp⟩,sub_cons rfl (sub_cons rfl (sub_cons rfl (sub_cons rfl sub_nil)))⟩,?_⟩
 clear hp hx hvl
 repeat clear hp
 rintro mm _ w ⟨i,vS,vK,hmm,rfl,hp⟩
 conv=>whnf
 refine VSeq.mk fun Kq hKq=>?_
 conv=>whnf
 refine VSeq.mk fun Kq hKq=>?_
 conv=>whnf
 refine hKq _ _ _ (.refl _) ?_
 clear hKq Kq
 conv=>whnf
 refine ⟨fun hlt=>?_,fun hlt=>?_⟩
 ·have hlt:=of_decide_eq_true hlt
  conv=>whnf
  refine hKq _ _ _ (.refl _) ?_
  clear hKq Kq
  conv=>whnf
  refine VSeq.mk fun Kq hKq=>?_
  conv=>whnf
  refine VSeq.mk fun Kq hKq=>?_
  conv=>whnf
  have hi:i < PL.length:=by rw [PL_len]; omega
  have hvl:=SLv.of_row (hp.get (i:=2) rfl)
  have hq:PL.getD i 0 < 2147483648:=by
   refine PL_lt _ ?_
   rw [List.getD_eq_getElem?_getD,List.getElem?_eq_getElem hi]
   exact List.getElem_mem hi
  have hr:=root3 (PL.getD i 0) hq
  rw [root3_tab i (by omega)] at hr
  have hst:=take_next KL i (by rw [KL_len]; omega)
  obtain ⟨g,off,rfl,c1⟩:=hvl.at (getk (L:=PL) (i:=i) hi)
  obtain ⟨x,hxd⟩:∃ x,KL.getD i 0=x:=⟨_,rfl⟩
  rw [hxd] at hr hst
  refine v_mix TTok FFok mixed 8 [(0,false),(1,false),(2,false),(3,false),(4,false),(5,false),(6,false),(7,true)] (by kernel_rfl) ?_
  conv=>whnf
  refine ⟨_,fun w' hx'=>Blk.ld (Blk.ext (hp.get (i:=3) rfl) hx') TTok rfl (rfl),?_⟩
  conv=>whnf
  refine ⟨i,⟨by first | rfl | omega,by omega⟩,?_⟩
  conv=>whnf
  refine ⟨_,fun w2 hx'=>run_ld TTok rfl (by rw [addM_eq,Nat.mul_one]; exact Ext.cell hx' c1),?_⟩
  conv=>whnf
  first | refine PureF.quiet (hr) ?_ | refine PureF.quietE (hr) ?_
  conv=>whnf
  intro w hx
  try (have hp:=hp.call hx)
  conv=>whnf
  refine hp.kmade (kw .i64 [x]) 3 (fun b=>.slice (some ⟨b,0,none⟩) 1 1) (by kernel_rfl) fun tb w hp hx=>?_
  conv=>whnf
  refine And.intro hx ?_
  conv=>whnf
  intro w hx
  try (have hp:=hp.call hx)
  conv=>whnf
  refine hp.kapp' sl48 1 rfl (Blk.src TTok (hp.get (i:=0) rfl) rfl rfl (kw_one _ _)) (by omega) (by unfold maxLen; omega) (by omega) fun b' c' w hp=>?_
  simp only [List.set_cons_zero,List.set_cons_succ] at hp
  rw [← kw_app,← hst] at hp
  conv=>whnf
  refine hp.kst1 (off:=1) TTok (by rfl) 4 (by rfl) (by rfl) (by rfl) (by show 1 < 2; exact Nat.lt_succ_self 1) fun w hp=>?_
  try simp only [List.set_cons_zero,List.set_cons_succ,EV.val] at hp
  conv=>whnf
  refine hKq _ _ _ (.refl _) ?_
  clear hKq Kq
  conv=>whnf
  refine VSeq.mk fun Kq hKq=>?_
  conv=>whnf
  refine hKq _ _ _ (.refl _) ?_
  clear hKq Kq
  conv=>whnf
  have hp:=hp.tail
  refine ⟨fun h8=>?_,fun h8=>?_⟩
  ·have h8:=of_decide_eq_true h8
   conv=>whnf
   have hvl:=SLv.of_row (hp.get (i:=2) rfl)
   have c1:=hvl.get (getk (L:=PL) (i:=i) hi)
   have hr:=root2 (PL.getD i 0) hq
   rw [root2_tab i (by omega)] at hr
   have hst:=take_next SL i (by show i < 8; omega)
   obtain ⟨x,hxd⟩:∃ x,SL.getD i 0=x:=⟨_,rfl⟩
   rw [hxd] at hr hst
   rw [show min i 8=i by omega] at hp
   refine v_mix TTok FFok mixed 8 [(0,false),(1,false),(2,false),(3,false),(4,false),(5,false),(6,false),(7,true)] (by kernel_rfl) ?_
   conv=>whnf
   refine ⟨_,fun w' hx'=>Blk.ld (Blk.ext (hp.get (i:=3) rfl) hx') TTok rfl (rfl),?_⟩
   conv=>whnf
   refine ⟨i,⟨by first | rfl | omega,by omega⟩,?_⟩
   conv=>whnf
   refine ⟨_,fun w2 hx'=>run_ld TTok rfl (by rw [addM_eq,Nat.mul_one]; exact Ext.cell hx' c1),?_⟩
   conv=>whnf
   first | refine PureF.quiet (hr) ?_ | refine PureF.quietE (hr) ?_
   conv=>whnf
   intro w hx
   try (have hp:=hp.call hx)
   conv=>whnf
   refine hp.kmade (kw .i64 [x]) 3 (fun b=>.slice (some ⟨b,0,none⟩) 1 1) (by kernel_rfl) fun tb w hp hx=>?_
   conv=>whnf
   refine And.intro hx ?_
   conv=>whnf
   intro w hx
   try (have hp:=hp.call hx)
   conv=>whnf
   refine hp.kapp' sl48 2 rfl (Blk.src TTok (hp.get (i:=0) rfl) rfl rfl (kw_one _ _)) (by omega) (by unfold maxLen; omega) (by omega) fun b' c' w hp=>?_
   simp only [List.set_cons_zero,List.set_cons_succ] at hp
   rw [← kw_app,← hst] at hp
   conv=>whnf
   refine hp.kst1 (off:=0) TTok (by rfl) 4 (by rfl) (by rfl) (by rfl) (by show 0 < 2; exact Nat.succ_pos 1) fun w hp=>?_
   try simp only [List.set_cons_zero,List.set_cons_succ,EV.val] at hp
   conv=>whnf
   refine hKq _ _ _ (.refl _) ?_
   clear hKq Kq
   conv=>whnf
   refine Or.inl (And.intro (by omega) ?_)
   conv=>whnf
   exact ⟨mm - 1,_,by omega,⟨i+1,_,_,by omega,rfl,by rw [show min (i+1) 8=i+1 by omega]; exact hp.tail⟩,sub_cons rfl (sub_cons rfl (sub_cons rfl (sub_cons rfl sub_nil)))⟩
  ·have h8:=of_decide_eq_false h8
   conv=>whnf
   refine hKq _ _ _ (.refl _) ?_
   clear hKq Kq
   conv=>whnf
   refine Or.inl (And.intro (by omega) ?_)
   conv=>whnf
   have e1:min i 8=min (i+1) 8:=by omega
   have e2:SL.take i=SL.take (i+1):=by rw [List.take_of_length_le (by show 8≤i; omega),List.take_of_length_le (by show 8≤i+1; omega)]
   rw [e1,e2] at hp
   exact ⟨mm - 1,_,by omega,⟨i+1,_,_,by omega,rfl,hp⟩,sub_cons rfl (sub_cons rfl (sub_cons rfl (sub_cons rfl sub_nil)))⟩
 ·have hlt:=of_decide_eq_false hlt
  conv=>whnf
  clear hKq Kq
  refine hKq _ _ _ (.refl _) ?_
  clear hKq Kq
  conv=>whnf
  refine VSeq.mk fun Kq hKq=>?_
  conv=>whnf
  obtain rfl:i=64:=by omega
  have hvK:=SLv.of_row (hp.get (i:=0) rfl)
  have hvS:=SLv.of_row (hp.get (i:=1) rfl)
  obtain ⟨pK,cK,rfl⟩:=hvK.shape
  obtain ⟨pS,cS,rfl⟩:=hvS.shape
  refine ⟨_,_,Blk.ldN (hp.get (i:=3) rfl) TTok rfl (rfl),?_⟩
  conv=>whnf
  refine hp.kstA TTok rfl 4 rfl (rfl) ((by intro u hu; simp at hu; rcases hu with rfl | rfl <;> rfl)) (rfl) fun w hp=>?_
  try simp only [List.set_cons_zero,List.set_cons_succ,EV.val] at hp
  conv=>whnf
  refine hKq _ _ _ (.refl _) ?_
  clear hKq Kq
  conv=>whnf
  exact ⟨_,Blk.lvN (hp.get (i:=4) rfl) TTok rfl rfl,⟨_,_,rfl,SLv.of_row (hp.get (i:=1) rfl),SLv.of_row (hp.get (i:=0) rfl)⟩,hp.ext⟩
set_option maxHeartbeats 6400000

/-! ### bits -/
def bit8 (b:UInt8):List Bool:=(List.range 8).map fun k=>b.toNat.testBit k
def bitsL (s:List UInt8):List Bool:=s.flatMap bit8
theorem bit8_len (b:UInt8):(bit8 b).length=8:=by simp [bit8]
theorem bitsL_len (s:List UInt8):(bitsL s).length=8 * s.length:=flatMap_len _ 8 bit8_len s
theorem testBit_dec (x k:Nat):x.testBit k=decide (x / 2 ^ k % 2=1):=by
 rw [Nat.testBit_eq_decide_div_mod_eq]
theorem bits_f (s:ByteArray) (hs:s.size≤5000):MakesF Tryz.prog 174 #[.string s] fun v=>[row 4 1 v (8 * s.size) (bw (bitsL s.data.toList))]:=by
 have hsl:=toList_len s
 first | refine v_makes TTok FFok Tryz.func174 rfl rfl fun w0=>?_ | refine v_makes (args:=[]) TTok FFok Tryz.func174 rfl rfl fun w0=>?_
 conv=>whnf
 refine VSeq.mk fun Kq hKq=>?_
 conv=>whnf
 refine hKq _ _ _ (.refl _) ?_
 clear hKq Kq
 conv=>whnf
 refine VSeq.mk fun Kq hKq=>?_
 conv=>whnf
 refine hKq _ _ _ (.refl _) ?_
 clear hKq Kq
 conv=>whnf
 refine VSeq.mk fun Kq hKq=>?_
 conv=>whnf
 refine VSeq.mk fun Kq hKq=>?_
 conv=>whnf
 refine hKq _ _ _ (.refl _) ?_
 clear hKq Kq
 conv=>whnf
 have hp:=Hp.nil w0
 have hp:=hp.knil 4 1
 refine ⟨fun m l w=>∃ (i:Nat) (v:Value),m+i=s.size∧l=[(0,.v (.string s)),(3,.v v),(4,.v (.int .i64 i))]∧Hp w0 w [row 4 1 v (8 * i) (bw (bitsL (s.data.toList.take i)))],
  ⟨s.size,_,⟨0,_,by omega,rfl,hp⟩,sub_cons rfl (sub_cons rfl (sub_cons rfl sub_nil))⟩,?_⟩
 clear hp
 repeat clear hp
 rintro m _ w ⟨i,v,hm,rfl,hp⟩
 conv=>whnf
 refine VSeq.mk fun Kq hKq=>?_
 conv=>whnf
 refine VSeq.mk fun Kq hKq=>?_
 conv=>whnf
 refine hKq _ _ _ (.refl _) ?_
 clear hKq Kq
 conv=>whnf
 refine ⟨fun hlt=>?_,fun hlt=>?_⟩
 ·have hlt:=of_decide_eq_true hlt
  conv=>whnf
  refine hKq _ _ _ (.refl _) ?_
  clear hKq Kq
  conv=>whnf
  refine VSeq.mk fun Kq hKq=>?_
  conv=>whnf
  refine VSeq.mk fun Kq hKq=>?_
  conv=>whnf
  refine hKq _ _ _ (.refl _) ?_
  clear hKq Kq
  conv=>whnf
  have hi:i < s.size:=by omega
  have hil:i < s.data.toList.length:=by omega
  have hS:=byt_at s i hil
  have hX:=s.data.toList[i].toNat_lt
  have htk:bitsL (s.data.toList.take (i+1))=bitsL (s.data.toList.take i)++bit8 s.data.toList[i]:=by
   rw [take_snoc (List.getElem?_eq_getElem hil)]; unfold bitsL; rw [List.flatMap_append]; simp
  generalize s.data.toList[i]=b at *
  refine ⟨fun m2 l w=>∃ (j:Nat) (v:Value),m2+j=8∧l=[(0,.v (.string s)),(3,.v v),(4,.v (.int .i64 i)),(5,.v (.int .i64 j))]∧Hp w0 w [row 4 1 v (8 * i+j) (bw (bitsL (s.data.toList.take i)++(bit8 b).take j))],
   ⟨8,_,⟨0,v,by omega,rfl,by simpa using hp⟩,sub_cons rfl (sub_cons rfl (sub_cons rfl (sub_cons rfl sub_nil)))⟩,?_⟩
  clear hp v
  repeat clear hp
  rintro m2 _ w ⟨j,v,hm2,rfl,hp⟩
  conv=>whnf
  refine VSeq.mk fun Kq hKq=>?_
  conv=>whnf
  refine VSeq.mk fun Kq hKq=>?_
  conv=>whnf
  refine hKq _ _ _ (.refl _) ?_
  clear hKq Kq
  conv=>whnf
  refine ⟨fun hlt2=>?_,fun hlt2=>?_⟩
  ·have hlt2:=of_decide_eq_true hlt2
   conv=>whnf
   refine hKq _ _ _ (.refl _) ?_
   clear hKq Kq
   conv=>whnf
   refine VSeq.mk fun Kq hKq=>?_
   conv=>whnf
   have hbt:(bit8 b).take (j+1)=(bit8 b).take j++[b.toNat.testBit j]:=take_snoc (by rw [bit8,List.getElem?_map,List.getElem?_range (by omega)]; rfl)
   have hpj:b.toNat / 2 ^ j < 256:=Nat.lt_of_le_of_lt (Nat.div_le_self _ _) hX
   refine ⟨i,⟨by first | rfl | omega,by omega⟩,?_⟩
   conv=>whnf
   refine And.intro (by omega) ?_
   conv=>whnf
   refine ⟨j,⟨by first | rfl | omega,by omega⟩,?_⟩
   conv=>whnf
   rw [hS]
   have e:((b.toNat:Nat):Int) / 2 ^ j=((b.toNat / 2 ^ j:Nat):Int):=by
    rw [Int.natCast_ediv,Int.natCast_pow]; rfl
   rw [e]
   have hbd:=testBit_dec b.toNat j
   generalize b.toNat.testBit j=tb0 at *
   clear e
   generalize b.toNat / 2 ^ j=y at *
   refine ⟨y,1,y % 2,⟨by first | rfl | omega,by first | rfl | omega,by omega,by omega⟩,by (dsimp only; exact and_one _),?_⟩
   conv=>whnf
   have e2:(decide (((y % 2:Nat):Int)=1))=tb0:=by
    rw [hbd]; exact decide_eq_decide.2 (by omega)
   rw [e2]
   refine hp.kmade (bw [tb0]) 4 (fun b=>.slice (some ⟨b,0,none⟩) 1 1) (by kernel_rfl) fun tb w hp hx=>?_
   conv=>whnf
   refine hp.kapp sl251 1 rfl (Blk.src TTok (hp.get (i:=0) rfl) rfl rfl (bw_one _)) (by omega) (by unfold maxLen; omega) fun v' w hp=>?_
   simp only [List.set_cons_zero,List.set_cons_succ] at hp
   conv=>whnf
   refine hKq _ _ _ (.refl _) ?_
   clear hKq Kq
   conv=>whnf
   refine Or.inl (And.intro (by omega) ?_)
   conv=>whnf
   refine ⟨m2 - 1,_,by omega,⟨j+1,v',by omega,rfl,?_⟩,sub_cons rfl (sub_cons rfl (sub_cons rfl (sub_cons rfl sub_nil)))⟩
   rw [hbt,← List.append_assoc,bw_app]; exact hp.tail
  ·have hlt2:=of_decide_eq_false hlt2
   conv=>whnf
   clear hKq Kq
   refine hKq _ _ _ (.refl _) ?_
   clear hKq Kq
   conv=>whnf
   refine Or.inl (And.intro (by omega) ?_)
   conv=>whnf
   obtain rfl:j=8:=by omega
   refine ⟨m - 1,_,by omega,⟨i+1,v,by omega,rfl,?_⟩,sub_cons rfl (sub_cons rfl (sub_cons rfl sub_nil))⟩
   rw [List.take_of_length_le (l:=bit8 b) (by rw [bit8_len]; omega)] at hp
   rw [htk,show 8 * (i+1)=8 * i+8 by omega]; exact hp
 ·have hlt:=of_decide_eq_false hlt
  conv=>whnf
  clear hKq Kq
  refine hKq _ _ _ (.refl _) ?_
  clear hKq Kq
  conv=>whnf
  refine VSeq.mk fun Kq hKq=>?_
  conv=>whnf
  refine hKq _ _ _ (.refl _) ?_
  clear hKq Kq
  conv=>whnf
  obtain rfl:i=s.size:=by omega
  rw [List.take_of_length_le (by omega)] at hp
  exact hp
end Go.Proofs.YtmlmfmdmomegpaaGreatDoor
