/- Chapter 02: codes. -/
/- Chapter 02: Sum, Mac, Derive of the program. -/
/- Rules for walks whose steps are found by trial. Own work. No program is named here. -/
/- Written by a program of mine off the seat's translation: what composite literals make. -/
/- Chapter 08: addresses, small functions. -/
/- Chapter 08: numbers as octets. -/
/- Chapter 08: padding, mixed octets. -/
/- Chapter 08: mixed values, values of errors. -/
/- Chapter 08: a builder of octets. -/
/- Chapter 08: lists of attributes. -/
import Derived.Test.YtmlmfmdmomegpaaGreatDoorGU04
import Derived.Test.YtmlmfmdmomegpaaGreatDoorGU02
import Derived.Test.YtmlmfmdmomegpaaGreatDoorGU03
import Derived.Lib.Builder
namespace Go.Proofs.YtmlmfmdmomegpaaGreatDoor
set_option linter.unusedSimpArgs false
set_option linter.unusedVariables false
set_option maxRecDepth 100000
open Go.RowKit V
def padL (k:List UInt8):List UInt8:=k++List.replicate (64 - k.length) 0
theorem padL_len (k:List UInt8) (h:k.length≤64):(padL k).length=64:=by unfold padL; rw [List.length_append,List.length_replicate]; omega
def xorK (c:UInt8) (k:List UInt8):List UInt8:=(padL k).map (· ^^^ c)
def mapP (f:UInt8→UInt8) (l:List UInt8) (i:Nat):List UInt8:=(l.map f).take i++l.drop i
theorem mapP_zero (f:UInt8→UInt8) (l:List UInt8):mapP f l 0=l:=by simp [mapP]
theorem mapP_all (f:UInt8→UInt8) (l:List UInt8):mapP f l l.length=l.map f:=by
 unfold mapP; rw [List.drop_length,List.append_nil,List.take_of_length_le (by rw [List.length_map]; exact Nat.le_refl _)]
theorem mapP_len (f:UInt8→UInt8) (l:List UInt8) (i:Nat) (h:i≤l.length):(mapP f l i).length=l.length:=by
 unfold mapP; rw [List.length_append,List.length_take,List.length_map,List.length_drop]; omega
theorem mapP_get (f:UInt8→UInt8) (l:List UInt8) (i:Nat) (h:i < l.length):(mapP f l i)[i]? = some (l.getD i 0):=by
 unfold mapP
 rw [List.getElem?_append_right (by rw [List.length_take]; omega),List.length_take,List.length_map,show i - min i l.length=0 by omega,List.getElem?_drop,Nat.add_zero,List.getD_eq_getElem?_getD,List.getElem?_eq_getElem h]; rfl
theorem mapP_set (f:UInt8→UInt8) (l:List UInt8) (i:Nat) (h:i < l.length):(mapP f l i).set i (f (l.getD i 0))=mapP f l (i+1):=by
 unfold mapP
 rw [List.set_append,if_neg (by rw [List.length_take]; omega),List.length_take,List.length_map,show i - min i l.length=0 by omega,List.drop_eq_getElem_cons h,List.set_cons_zero,List.take_add_one,List.getElem?_map,List.getElem?_eq_getElem h,List.getD_eq_getElem?_getD,List.getElem?_eq_getElem h]
 simp
theorem bytesV_set' (l:List UInt8) (i:Nat) (b:UInt8) (n:Nat) (e:n=b.toNat):(bytesV l).set i (.int .u8 ((n:Nat):Int))=bytesV (l.set i b):=by
 subst e; simp [bytesV,List.map_set]
theorem bytesV_drop (b:List UInt8) (m:Nat):(bytesV b).drop m=bytesV (b.drop m):=by simp [bytesV,List.map_drop]
set_option maxHeartbeats 4000000 in
theorem with_c {w0:World} {b4:Nat} (key:ByteArray) (c:UInt8) (hk:key.size≤64) (hb:Blk w0 b4 [.string key] 9) :
  Calls Tryz.prog 129 #[.int .u8 (c.toNat:Nat),.pointer (some ⟨b4,0,none⟩)] w0 fun e w'=>e = .returned (.string ⟨(xorK c key.data.toList).toArray⟩)∧Ext w0 w':=by
 have hkl:key.data.toList.length=key.size:=by simp
 have hc:=c.toNat_lt
 refine v_reads TTok FFok Tryz.func129 rfl rfl ?_
 conv=>whnf
 refine VSeq.mk fun Kq hKq=>?_
 conv=>whnf
 refine hKq _ _ _ (.refl _) ?_
 clear hKq Kq
 conv=>whnf
 refine VSeq.mk fun Kq hKq=>?_
 conv=>whnf
 have hp:=Hp.nil w0
 refine hp.kmkS sl88 z5 64 (by decide) (by unfold maxLen; decide) fun q w hp hx=>?_
 conv=>whnf
 refine hKq _ _ _ (.refl _) ?_
 clear hKq Kq
 conv=>whnf
 refine VSeq.mk fun Kq hKq=>?_
 conv=>whnf
 refine ⟨_,_,Blk.ld (hb.ext hp.ext) TTok rfl (rfl),?_⟩
 conv=>whnf
 refine hp.kcopyS sl88 0 rfl key (bytesV key.data.toList) (by rw [List.take_of_length_le (by omega)]) (by rw [bytesV_len,List.length_replicate]; omega) fun w hp=>?_
 simp only [List.set_cons_zero] at hp
 rw [bytesV_rep,bytesV_drop,← bytesV_app,bytesV_len,List.drop_replicate,show key.data.toList++List.replicate (64 - key.data.toList.length) 0=padL key.data.toList from rfl] at hp
 have hpl:=padL_len key.data.toList (by omega)
 have hxk:xorK c key.data.toList=(padL key.data.toList).map (· ^^^ c):=rfl
 obtain ⟨l,hl⟩:∃ l,padL key.data.toList=l:=⟨_,rfl⟩
 rw [hl] at hp hpl hxk
 conv=>whnf
 refine hKq _ _ _ (.refl _) ?_
 clear hKq Kq
 conv=>whnf
 refine VSeq.mk fun Kq hKq=>?_
 conv=>whnf
 refine VSeq.mk fun Kq hKq=>?_
 conv=>whnf
 refine hKq _ _ _ (.refl _) ?_
 clear hKq Kq
 conv=>whnf
 have hp:HpM [] w0 w [blk q (bytesV (mapP (· ^^^ c) l 0)) 5]:=by rw [mapP_zero]; exact hp
 refine ⟨fun m e w'=>∃ (i:Nat),m+i=64∧e=[(0,.v (.int .u8 (c.toNat:Nat))),(4,.v (.slice (some ⟨q,0,none⟩) 64 64)),(11,.v (.int .i64 64)),(12,.v (.int .i64 i))] ∧
   HpM [] w0 w' [blk q (bytesV (mapP (· ^^^ c) l i)) 5],
  ⟨64,_,⟨0,by omega,rfl,hp⟩,sub_cons rfl (sub_cons rfl (sub_cons rfl (sub_cons rfl sub_nil)))⟩,?_⟩
 clear hp hx
 repeat clear hp
 rintro m _ w ⟨i,hm,rfl,hp⟩
 conv=>whnf
 refine VSeq.mk fun Kq hKq=>?_
 conv=>whnf
 refine hKq _ _ _ (.refl _) ?_
 clear hKq Kq
 conv=>whnf
 refine VSeq.mk fun Kq hKq=>?_
 conv=>whnf
 refine ⟨fun hlt=>?_,fun hlt=>?_⟩
 ·have hlt:=of_decide_eq_true hlt
  conv=>whnf
  refine hKq _ _ _ (.refl _) ?_
  clear hKq Kq
  conv=>whnf
  refine VSeq.mk fun Kq hKq=>?_
  conv=>whnf
  refine VSeq.mk fun Kq hKq=>?_
  conv=>whnf
  refine hKq _ _ _ (.refl _) ?_
  clear hKq Kq
  conv=>whnf
  have hg:=mapP_get (· ^^^ c) l i (by omega)
  have hs:=mapP_set (· ^^^ c) l i (by omega)
  have hml:=mapP_len (· ^^^ c) l i (by omega)
  obtain ⟨x,hxd⟩:∃ x,l.getD i 0=x:=⟨_,rfl⟩
  rw [hxd] at hg hs
  have hx:=x.toNat_lt
  have hxc:x.toNat ^^^ c.toNat=(x ^^^ c).toNat:=(UInt8.toNat_xor _ _).symm
  refine ⟨i,⟨by first | rfl | omega,by omega⟩,?_⟩
  conv=>whnf
  refine ⟨_,_,Blk.ld (hp.get (i:=0) rfl) TTok rfl (bytesV_get hg),?_⟩
  conv=>whnf
  refine ⟨x.toNat,c.toNat,(x ^^^ c).toNat,⟨by first | rfl | omega,by first | rfl | omega,by omega,by omega⟩,by (dsimp only; exact hxc),?_⟩
  conv=>whnf
  refine ⟨i,⟨by first | rfl | omega,by omega⟩,?_⟩
  conv=>whnf
  refine hp.kst1 (off:=i) TTok (by rfl) 0 (by rfl) (by rfl) (by rfl) (by rw [bytesV_len,hml]; omega) fun w hp=>?_
  try simp only [List.set_cons_zero,List.set_cons_succ,EV.val] at hp
  conv=>whnf
  refine hKq _ _ _ (.refl _) ?_
  clear hKq Kq
  conv=>whnf
  refine Or.inl (And.intro (by omega) ?_)
  conv=>whnf
  rw [bytesV_set' _ _ _ _ rfl,hs] at hp
  exact ⟨m - 1,_,by omega,⟨i+1,by omega,rfl,hp⟩,sub_cons rfl (sub_cons rfl (sub_cons rfl (sub_cons rfl sub_nil)))⟩
 ·have hlt:=of_decide_eq_false hlt
  conv=>whnf
  clear hKq Kq
  refine hKq _ _ _ (.refl _) ?_
  clear hKq Kq
  conv=>whnf
  refine VSeq.mk fun Kq hKq=>?_
  conv=>whnf
  obtain rfl:i=l.length:=by omega
  rw [mapP_all,← hxk] at hp
  refine ⟨_,_,Blk.str (l:=xorK c key.data.toList) (hp.get (i:=0) rfl) TTok rfl rfl rfl rfl (by rw [hxk,List.length_map,hpl]),?_⟩
  conv=>whnf
  refine hKq _ _ _ (.refl _) ?_
  clear hKq Kq
  conv=>whnf
  exact ⟨rfl,hp.ext⟩
/-- the key itself, or its digest -/
def keyL (k:List UInt8):List UInt8:=if 64 < k.length then sumL2 KL SL k else k
def macL (k m:List UInt8):List UInt8:=sumL2 KL SL (xorK 92 (keyL k)++sumL2 KL SL (xorK 54 (keyL k)++m))
theorem sumL2_len (s:List UInt8):(sumL2 KL SL s).length=32:=endL_len KL (mixA_W8 KL SL_W8 s) _ _
theorem keyL_len (k:List UInt8):(keyL k).length≤64:=by
 unfold keyL
 split
 ·rw [sumL2_len]; decide
 ·omega
theorem xorK_len (c:UInt8) (k:List UInt8) (h:k.length≤64):(xorK c k).length=64:=by unfold xorK; rw [List.length_map,padL_len k h]
set_option maxHeartbeats 800000 in
theorem mac_c {w0:World} {v:Value} (key:ByteArray) (L:List ByteArray) (hv:SLv w0 v (sw L)) (hl:(catL L).length≤20000) (hn:L.length≤100) (hk:key.size≤20000) :
  Calls Tryz.prog 95 #[mV,.string key,v] w0 fun e w'=>e = .returned (.string ⟨(macL key.data.toList (catL L)).toArray⟩)∧Ext w0 w':=by
 obtain ⟨p,c,rfl⟩:=hv.shape
 rw [sw_len] at hv ⊢
 have hkl:key.data.toList.length=key.size:=by simp
 unfold mV
 refine v_reads TTok FFok Tryz.func95 rfl rfl ?_
 conv=>whnf
 refine VSeq.mk fun Kq hKq=>?_
 conv=>whnf
 have hp:=Hp.nil w0
 refine hp.kbox (mC) rfl fun q3 w hp hx=>?_
 conv=>whnf
 refine hp.kbox ([.string key]) rfl fun q4 w hp hx=>?_
 conv=>whnf
 refine hKq _ _ _ (.refl _) ?_
 clear hKq Kq
 conv=>whnf
 refine VSeq.mk fun Kq hKq=>?_
 conv=>whnf
 refine VSeq.mk fun Kq hKq=>?_
 conv=>whnf
 refine ⟨_,_,Blk.ld (hp.get (i:=0) rfl) TTok rfl (rfl),?_⟩
 conv=>whnf
 refine hKq _ _ _ (.refl _) ?_
 clear hKq Kq
 conv=>whnf
 have key2:∀ (kk:ByteArray) (w:World),kk.data.toList=keyL key.data.toList→HpM [] w0 w [blk q4 [.string kk] 9,blk q3 mC 160] →
   ∀ l,V.Sub [(2,.v (.slice p L.length c)),(3,.v (.pointer (some ⟨q3,0,none⟩))),(4,.v (.pointer (some ⟨q4,0,none⟩)))] l→Kq l w:=by
  clear hp hx
  repeat clear hp
  intro kk w hkk hp l hsub
  refine hKq _ _ _ hsub ?_
  clear hKq Kq hsub
  have hkk64:kk.size≤64:=by rw [← toList_len,hkk]; exact keyL_len _
  have hmac:macL key.data.toList (catL L)=sumL2 KL SL (xorK 92 kk.data.toList++sumL2 KL SL (xorK 54 kk.data.toList++catL L)):=by rw [hkk]; rfl
  have hx54:=xorK_len 54 kk.data.toList (by rw [toList_len]; exact hkk64)
  have hx92:=xorK_len 92 kk.data.toList (by rw [toList_len]; exact hkk64)
  obtain ⟨A,hA⟩:∃ A:ByteArray,⟨(xorK 54 kk.data.toList).toArray⟩=A:=⟨_,rfl⟩
  obtain ⟨B,hB⟩:∃ B:ByteArray,⟨(xorK 92 kk.data.toList).toArray⟩=B:=⟨_,rfl⟩
  have hAl:A.data.toList=xorK 54 kk.data.toList:=by rw [← hA]
  have hBl:B.data.toList=xorK 92 kk.data.toList:=by rw [← hB]
  have hw54:=fun (w1:World) (hx':Ext w w1)=>with_c kk 54 hkk64 (Blk.ext (hp.get (i:=0) rfl) hx')
  have hw92:=fun (w1:World) (hx':Ext w w1)=>with_c kk 92 hkk64 (Blk.ext (hp.get (i:=0) rfl) hx')
  rw [hA] at hw54
  rw [hB] at hw92
  rw [← hAl] at hmac hx54
  rw [← hBl] at hmac hx92
  clear hA hB hAl hBl
  have hcat1:catL (A :: L)=A.data.toList++catL L:=rfl
  conv=>whnf
  refine VSeq.mk fun Kq hKq=>?_
  conv=>whnf
  refine hKq _ _ _ (.refl _) ?_
  clear hKq Kq
  conv=>whnf
  refine VSeq.mk fun Kq hKq=>?_
  conv=>whnf
  refine v_mixA TTok FFok mixed [(0,false),(1,false),(2,false),(3,false),(4,false),(5,false),(7,false),(6,true),(8,true),(9,false),(10,true),(11,false),(12,false)] (by kernel_rfl) ?_
  conv=>whnf
  refine ⟨_,fun w' hx'=>Blk.ldN (Blk.ext (hp.get (i:=1) rfl) hx') TTok rfl (by rfl),?_⟩
  conv=>whnf
  refine ⟨_,fun w1 hx'=>hw92 w1 hx',?_⟩
  conv=>whnf
  refine ⟨_,fun w' hx'=>Blk.ldN (Blk.ext (hp.get (i:=1) rfl) hx') TTok rfl (by rfl),?_⟩
  conv=>whnf
  refine ⟨_,fun w1 hx'=>hw54 w1 hx',?_⟩
  conv=>whnf
  intro w hx
  have hp:=hp.call hx
  conv=>whnf
  refine hp.kmadeR (sw [A]) 9 1 1 rfl (by decide) (by kernel_rfl) fun b w hp hx=>?_
  conv=>whnf
  refine And.intro hx ?_
  intro w hx
  have hp:=hp.call hx
  conv=>whnf
  refine hp.kappE sl195 (SLv.src TTok (tx:=195) rfl (hv.ext hp.ext) (sw_one _)) (by rw [sw_len]; omega) (by rw [sw_len]; unfold maxLen; omega) fun u w hp hx=>?_
  rw [← sw_app] at hp
  conv=>whnf
  refine And.intro hx ?_
  conv=>whnf
  have hs1:=fun (w1:World) (hx':Ext w w1)=>sum_c (w0:=w1) (v:=u) (A :: L) (SLv.ext (SLv.of_row (hp.get (i:=0) rfl)) hx') (by rw [hcat1,List.length_append,hx54]; omega) (by rw [List.length_cons]; omega)
  rw [hcat1] at hs1
  have hs1l:=sumL2_len (A.data.toList++catL L)
  obtain ⟨S1,hS1⟩:∃ S1:ByteArray,⟨(sumL2 KL SL (A.data.toList++catL L)).toArray⟩=S1:=⟨_,rfl⟩
  have hS1l:S1.data.toList=sumL2 KL SL (A.data.toList++catL L):=by rw [← hS1]
  rw [hS1] at hs1
  rw [← hS1l] at hmac hs1l
  clear hS1 hS1l
  refine ⟨_,fun w1 hx'=>hs1 w1 hx',?_⟩
  conv=>whnf
  intro w hx
  have hp:=hp.call hx
  conv=>whnf
  refine hp.kmadeR (sw [B,S1]) 9 1 2 rfl (by decide) (by kernel_rfl) fun b2 w hp hx=>?_
  conv=>whnf
  refine And.intro hx ?_
  conv=>whnf
  have hcat2:catL [B,S1]=B.data.toList++S1.data.toList:=by unfold catL; simp
  have hs2:=fun (w1:World) (hx':Ext w w1)=>sum_c (w0:=w1) (v:=.slice (some ⟨b2,0,none⟩) 2 2) [B,S1] (SLv.ext (SLv.of_row (hp.get (i:=0) rfl)) hx') (by rw [hcat2,List.length_append,hx92,hs1l]; omega) (by rw [List.length_cons,List.length_cons]; exact (by decide:0+1+1≤1000))
  rw [hcat2,← hmac] at hs2
  refine ⟨_,fun w1 hx'=>hs2 w1 hx',?_⟩
  conv=>whnf
  intro w hx
  try (have hp:=hp.call hx)
  conv=>whnf
  refine hKq _ _ _ (.refl _) ?_
  clear hKq Kq
  conv=>whnf
  exact ⟨rfl,hp.ext⟩
 clear hKq
 refine ⟨fun hlt=>?_,fun hlt=>?_⟩
 ·have hlt:=of_decide_eq_true hlt
  conv=>whnf
  refine ⟨_,_,Blk.ldN (hp.get (i:=1) rfl) TTok rfl (by rfl),?_⟩
  conv=>whnf
  refine ⟨_,_,Blk.ld (hp.get (i:=0) rfl) TTok rfl (rfl),?_⟩
  conv=>whnf
  refine hp.kmade (sw [key]) 9 (fun b=>.slice (some ⟨b,0,none⟩) 1 1) (by kernel_rfl) fun tb w hp hx=>?_
  conv=>whnf
  have hcat:catL [key]=key.data.toList:=by unfold catL; simp
  have hs:=sum_c (v:=.slice (some ⟨tb,0,none⟩) 1 1) [key] (SLv.of_blk0 (n:=1) (c:=1) (hp.get (i:=0) rfl) rfl) (by rw [hcat]; omega) (by rw [List.length_cons]; exact (by decide:0+1≤1000))
  rw [hcat] at hs
  unfold mV at hs
  refine V.CallsUse (hs) fun w hx=>?_
  try (have hp:=hp.call hx)
  conv=>whnf
  refine hp.kst1 TTok (by rfl) 1 (by rfl) (by rfl) (by rfl) (by exact Nat.zero_lt_one) fun w hp=>?_
  try simp only [List.set_cons_zero,List.set_cons_succ,EV.val] at hp
  conv=>whnf
  refine key2 _ _ ?_ hp.tail _ (sub_cons rfl (sub_cons rfl (sub_cons rfl sub_nil)))
  unfold keyL
  rw [if_pos (by omega)]
 ·have hlt:=of_decide_eq_false hlt
  conv=>whnf
  refine key2 key _ ?_ hp _ (sub_cons rfl (sub_cons rfl (sub_cons rfl sub_nil)))
  unfold keyL
  rw [if_neg (by omega)]
def sumB (s:ByteArray):ByteArray:=⟨(sumL2 KL SL s.data.toList).toArray⟩
def macB (k s:ByteArray):ByteArray:=⟨(macL k.data.toList s.data.toList).toArray⟩
theorem sumB_size (s:ByteArray):(sumB s).size=32:=by unfold sumB; rw [bA_size,sumL2_len]
theorem macB_size (k s:ByteArray):(macB k s).size=32:=by unfold macB macL; rw [bA_size,sumL2_len]
theorem cat1 (s:ByteArray):catL [s]=s.data.toList:=by unfold catL; simp
def macR (k s:ByteArray):Value:=if 4096 < k.size∨4096 < s.size then .tuple #[.string ⟨#[]⟩,.int .i64 3] else .tuple #[.string (macB k s),.int .i64 0]
set_option maxHeartbeats 800000 in
theorem Mac_p (k s:ByteArray):PureF Tryz.prog 43 #[.string k,.string s] (macR k s):=by
 unfold macR
 first | refine v_pure TTok FFok Tryz.func43 rfl rfl fun w0=>?_ | refine v_pure (args:=[]) TTok FFok Tryz.func43 rfl rfl fun w0=>?_
 conv=>whnf
 repeat (first | (refine VSeq.mk fun Kq hKq=>?_; conv=>whnf) | (refine hKq _ _ _ (.refl _) ?_; clear hKq Kq; conv=>whnf) | (clear hKq Kq; refine hKq _ _ _ (.refl _) ?_; clear hKq Kq; conv=>whnf) | (clear hKq Kq; clear hKq Kq; refine hKq _ _ _ (.refl _) ?_; clear hKq Kq; conv=>whnf) | (clear hKq Kq; clear hKq Kq; clear hKq Kq; refine hKq _ _ _ (.refl _) ?_; clear hKq Kq; conv=>whnf) | (clear hKq Kq; clear hKq Kq; clear hKq Kq; clear hKq Kq; refine hKq _ _ _ (.refl _) ?_; clear hKq Kq; conv=>whnf) | (clear hKq Kq; clear hKq Kq; clear hKq Kq; clear hKq Kq; clear hKq Kq; refine hKq _ _ _ (.refl _) ?_; clear hKq Kq; conv=>whnf) | (refine Or.inl (And.intro (by omega) ?_); conv=>whnf) | (refine And.intro (by omega) ?_; conv=>whnf))
 have hp:=Hp.nil w0
 refine hp.kmade (sw [k,s]) 9 (fun b=>.slice (some ⟨b,0,none⟩) 2 2) (by kernel_rfl) fun tb w hp hx=>?_
 conv=>whnf
 repeat (first | (refine VSeq.mk fun Kq hKq=>?_; conv=>whnf) | (refine hKq _ _ _ (.refl _) ?_; clear hKq Kq; conv=>whnf) | (clear hKq Kq; refine hKq _ _ _ (.refl _) ?_; clear hKq Kq; conv=>whnf) | (clear hKq Kq; clear hKq Kq; refine hKq _ _ _ (.refl _) ?_; clear hKq Kq; conv=>whnf) | (clear hKq Kq; clear hKq Kq; clear hKq Kq; refine hKq _ _ _ (.refl _) ?_; clear hKq Kq; conv=>whnf) | (clear hKq Kq; clear hKq Kq; clear hKq Kq; clear hKq Kq; refine hKq _ _ _ (.refl _) ?_; clear hKq Kq; conv=>whnf) | (clear hKq Kq; clear hKq Kq; clear hKq Kq; clear hKq Kq; clear hKq Kq; refine hKq _ _ _ (.refl _) ?_; clear hKq Kq; conv=>whnf) | (refine Or.inl (And.intro (by omega) ?_); conv=>whnf) | (refine And.intro (by omega) ?_; conv=>whnf))
 have hl:=long_c (v:=.slice (some ⟨tb,0,none⟩) 2 2) [k,s] (SLv.of_blk0 (n:=2) (c:=2) (hp.get (i:=0) rfl) rfl) (by rw [List.length_cons,List.length_cons]; exact (by decide:0+1+1≤1000))
 rw [show bigS [k,s]=decide (4096 < k.size∨4096 < s.size) by simp [bigS]] at hl
 by_cases h:4096 < k.size∨4096 < s.size
 ·rw [decide_eq_true h] at hl
  refine V.CallsUse (hl) fun w hx=>?_
  try (have hp:=hp.call hx)
  conv=>whnf
  repeat (first | (refine VSeq.mk fun Kq hKq=>?_; conv=>whnf) | (refine hKq _ _ _ (.refl _) ?_; clear hKq Kq; conv=>whnf) | (clear hKq Kq; refine hKq _ _ _ (.refl _) ?_; clear hKq Kq; conv=>whnf) | (clear hKq Kq; clear hKq Kq; refine hKq _ _ _ (.refl _) ?_; clear hKq Kq; conv=>whnf) | (clear hKq Kq; clear hKq Kq; clear hKq Kq; refine hKq _ _ _ (.refl _) ?_; clear hKq Kq; conv=>whnf) | (clear hKq Kq; clear hKq Kq; clear hKq Kq; clear hKq Kq; refine hKq _ _ _ (.refl _) ?_; clear hKq Kq; conv=>whnf) | (clear hKq Kq; clear hKq Kq; clear hKq Kq; clear hKq Kq; clear hKq Kq; refine hKq _ _ _ (.refl _) ?_; clear hKq Kq; conv=>whnf) | (refine Or.inl (And.intro (by omega) ?_); conv=>whnf) | (refine And.intro (by omega) ?_; conv=>whnf))
  refine And.intro (fun _=>?_) (fun h=>by cases h)
  conv=>whnf
  repeat (first | (refine VSeq.mk fun Kq hKq=>?_; conv=>whnf) | (refine hKq _ _ _ (.refl _) ?_; clear hKq Kq; conv=>whnf) | (clear hKq Kq; refine hKq _ _ _ (.refl _) ?_; clear hKq Kq; conv=>whnf) | (clear hKq Kq; clear hKq Kq; refine hKq _ _ _ (.refl _) ?_; clear hKq Kq; conv=>whnf) | (clear hKq Kq; clear hKq Kq; clear hKq Kq; refine hKq _ _ _ (.refl _) ?_; clear hKq Kq; conv=>whnf) | (clear hKq Kq; clear hKq Kq; clear hKq Kq; clear hKq Kq; refine hKq _ _ _ (.refl _) ?_; clear hKq Kq; conv=>whnf) | (clear hKq Kq; clear hKq Kq; clear hKq Kq; clear hKq Kq; clear hKq Kq; refine hKq _ _ _ (.refl _) ?_; clear hKq Kq; conv=>whnf) | (refine Or.inl (And.intro (by omega) ?_); conv=>whnf) | (refine And.intro (by omega) ?_; conv=>whnf))
  exact ⟨by rw [if_pos h]; rfl,hp.ext⟩
 ·rw [decide_eq_false h] at hl
  refine V.CallsUse (hl) fun w hx=>?_
  try (have hp:=hp.call hx)
  conv=>whnf
  repeat (first | (refine VSeq.mk fun Kq hKq=>?_; conv=>whnf) | (refine hKq _ _ _ (.refl _) ?_; clear hKq Kq; conv=>whnf) | (clear hKq Kq; refine hKq _ _ _ (.refl _) ?_; clear hKq Kq; conv=>whnf) | (clear hKq Kq; clear hKq Kq; refine hKq _ _ _ (.refl _) ?_; clear hKq Kq; conv=>whnf) | (clear hKq Kq; clear hKq Kq; clear hKq Kq; refine hKq _ _ _ (.refl _) ?_; clear hKq Kq; conv=>whnf) | (clear hKq Kq; clear hKq Kq; clear hKq Kq; clear hKq Kq; refine hKq _ _ _ (.refl _) ?_; clear hKq Kq; conv=>whnf) | (clear hKq Kq; clear hKq Kq; clear hKq Kq; clear hKq Kq; clear hKq Kq; refine hKq _ _ _ (.refl _) ?_; clear hKq Kq; conv=>whnf) | (refine Or.inl (And.intro (by omega) ?_); conv=>whnf) | (refine And.intro (by omega) ?_; conv=>whnf))
  refine And.intro (fun h=>by cases h) (fun _=>?_)
  conv=>whnf
  repeat (first | (refine VSeq.mk fun Kq hKq=>?_; conv=>whnf) | (refine hKq _ _ _ (.refl _) ?_; clear hKq Kq; conv=>whnf) | (clear hKq Kq; refine hKq _ _ _ (.refl _) ?_; clear hKq Kq; conv=>whnf) | (clear hKq Kq; clear hKq Kq; refine hKq _ _ _ (.refl _) ?_; clear hKq Kq; conv=>whnf) | (clear hKq Kq; clear hKq Kq; clear hKq Kq; refine hKq _ _ _ (.refl _) ?_; clear hKq Kq; conv=>whnf) | (clear hKq Kq; clear hKq Kq; clear hKq Kq; clear hKq Kq; refine hKq _ _ _ (.refl _) ?_; clear hKq Kq; conv=>whnf) | (clear hKq Kq; clear hKq Kq; clear hKq Kq; clear hKq Kq; clear hKq Kq; refine hKq _ _ _ (.refl _) ?_; clear hKq Kq; conv=>whnf) | (refine Or.inl (And.intro (by omega) ?_); conv=>whnf) | (refine And.intro (by omega) ?_; conv=>whnf))
  refine PureF.use (made_p) fun w hx=>?_
  try (have hp:=hp.call hx)
  conv=>whnf
  repeat (first | (refine VSeq.mk fun Kq hKq=>?_; conv=>whnf) | (refine hKq _ _ _ (.refl _) ?_; clear hKq Kq; conv=>whnf) | (clear hKq Kq; refine hKq _ _ _ (.refl _) ?_; clear hKq Kq; conv=>whnf) | (clear hKq Kq; clear hKq Kq; refine hKq _ _ _ (.refl _) ?_; clear hKq Kq; conv=>whnf) | (clear hKq Kq; clear hKq Kq; clear hKq Kq; refine hKq _ _ _ (.refl _) ?_; clear hKq Kq; conv=>whnf) | (clear hKq Kq; clear hKq Kq; clear hKq Kq; clear hKq Kq; refine hKq _ _ _ (.refl _) ?_; clear hKq Kq; conv=>whnf) | (clear hKq Kq; clear hKq Kq; clear hKq Kq; clear hKq Kq; clear hKq Kq; refine hKq _ _ _ (.refl _) ?_; clear hKq Kq; conv=>whnf) | (refine Or.inl (And.intro (by omega) ?_); conv=>whnf) | (refine And.intro (by omega) ?_; conv=>whnf))
  refine hp.kmade (sw [s]) 9 (fun b=>.slice (some ⟨b,0,none⟩) 1 1) (by kernel_rfl) fun tc w hp hx=>?_
  conv=>whnf
  repeat (first | (refine VSeq.mk fun Kq hKq=>?_; conv=>whnf) | (refine hKq _ _ _ (.refl _) ?_; clear hKq Kq; conv=>whnf) | (clear hKq Kq; refine hKq _ _ _ (.refl _) ?_; clear hKq Kq; conv=>whnf) | (clear hKq Kq; clear hKq Kq; refine hKq _ _ _ (.refl _) ?_; clear hKq Kq; conv=>whnf) | (clear hKq Kq; clear hKq Kq; clear hKq Kq; refine hKq _ _ _ (.refl _) ?_; clear hKq Kq; conv=>whnf) | (clear hKq Kq; clear hKq Kq; clear hKq Kq; clear hKq Kq; refine hKq _ _ _ (.refl _) ?_; clear hKq Kq; conv=>whnf) | (clear hKq Kq; clear hKq Kq; clear hKq Kq; clear hKq Kq; clear hKq Kq; refine hKq _ _ _ (.refl _) ?_; clear hKq Kq; conv=>whnf) | (refine Or.inl (And.intro (by omega) ?_); conv=>whnf) | (refine And.intro (by omega) ?_; conv=>whnf))
  have hs:=mac_c (v:=.slice (some ⟨tc,0,none⟩) 1 1) k [s] (SLv.of_blk0 (n:=1) (c:=1) (hp.get (i:=0) rfl) rfl) (by rw [cat1,toList_len]; omega) (by rw [List.length_cons]; exact (by decide:0+1≤100)) (by omega)
  rw [cat1] at hs
  refine V.CallsUse (hs) fun w hx=>?_
  try (have hp:=hp.call hx)
  conv=>whnf
  repeat (first | (refine VSeq.mk fun Kq hKq=>?_; conv=>whnf) | (refine hKq _ _ _ (.refl _) ?_; clear hKq Kq; conv=>whnf) | (clear hKq Kq; refine hKq _ _ _ (.refl _) ?_; clear hKq Kq; conv=>whnf) | (clear hKq Kq; clear hKq Kq; refine hKq _ _ _ (.refl _) ?_; clear hKq Kq; conv=>whnf) | (clear hKq Kq; clear hKq Kq; clear hKq Kq; refine hKq _ _ _ (.refl _) ?_; clear hKq Kq; conv=>whnf) | (clear hKq Kq; clear hKq Kq; clear hKq Kq; clear hKq Kq; refine hKq _ _ _ (.refl _) ?_; clear hKq Kq; conv=>whnf) | (clear hKq Kq; clear hKq Kq; clear hKq Kq; clear hKq Kq; clear hKq Kq; refine hKq _ _ _ (.refl _) ?_; clear hKq Kq; conv=>whnf) | (refine Or.inl (And.intro (by omega) ?_); conv=>whnf) | (refine And.intro (by omega) ?_; conv=>whnf))
  exact ⟨by rw [if_neg h]; rfl,hp.ext⟩
open Go.RowKit
namespace V
theorem oneC_of {vs:List Value} (h:vs.all Value.oneCell'=true):∀ u∈vs,u.oneCell'=true:=fun u hu=>List.all_eq_true.1 h u hu
section
variable {P:Program} {T:Tab} {M:List Nat} {w0 w:World} {H:List It} {K:Value→World→Prop}
theorem HpM.kboxA (h:HpM M w0 w H) {t:Nat} {vs:List Value} (hk:∀ b w',HpM M w0 w' (blk b vs t :: H)→Ext w w'→K (.pointer (some ⟨b,0,none⟩)) w') :
    ∃ u w',(Instr.box t (.agg vs.toArray)).run P w = .ok u w'∧K u w':=h.kbox vs (by simp [Value.cells]) hk
theorem HpM.kbox1 (h:HpM M w0 w H) {t:Nat} {v:Value} (hv:v.cells = #[v]) (hk:∀ b w',HpM M w0 w' (blk b [v] t :: H)→Ext w w'→K (.pointer (some ⟨b,0,none⟩)) w') :
    ∃ u w',(Instr.box t v).run P w = .ok u w'∧K u w':=h.kbox [v] (by rw [hv]) hk
/-- A call, shut: contracts are matched by the function's number and the arguments alone. -/
structure CallW (P:Program) (f:Nat) (args:Array Value) (w:World) (K:Value→World→Prop):Prop where
  out:Calls P f args w fun e w'=>∃ v,e = .returned v∧K v w'
structure QCallW (P:Program) (f:Nat) (args:Array Value) (w0:World) (K:Value→Unit→Prop):Prop where
  out:∃ v,(∀ w1,Ext w0 w1→Calls P f args w1 fun e w'=>e = .returned v∧Ext w1 w')∧K v ()
structure CallsW (P:Program) (f:Nat) (args:Array Value) (w:World) (R:Ending→World→Prop):Prop where
  out:Calls P f args w R
theorem PureF.useW {f:Nat} {args:Array Value} {v:Value} (h:PureF P f args v) (hk:∀ w',Ext w w'→K v w'):CallW P f args w K:=⟨PureF.use h hk⟩
theorem PureF.quietW {f:Nat} {args:Array Value} {v:Value} {K:Value→Unit→Prop} (h:PureF P f args v) (hk:K v ()):QCallW P f args w K:=⟨PureF.quietE h hk⟩
theorem CallsUseW {f:Nat} {args:Array Value} {v:Value} (h:Calls P f args w fun e w'=>e = .returned v∧Ext w w') (hk:∀ w',Ext w w'→K v w'):CallW P f args w K:=⟨CallsUse h hk⟩
theorem MakesF.useW {f:Nat} {args:Array Value} {R:Value→List It} (h:MakesF P f args R) (hp:HpM M w0 w H) (hk:∀ v w',HpM M w0 w' (R v++H)→Ext w w'→K v w'):CallW P f args w K:=⟨MakesF.use h hp hk⟩
theorem CallsW.use {f:Nat} {args:Array Value} {R:Ending→World→Prop} (h:Calls P f args w R) (hk:∀ e w',R e w'→∃ v,e = .returned v∧K v w'):CallW P f args w K:=⟨h.mono hk⟩
/-- append onto an own slice whatever marks its row bears -/
theorem HpM.kappO (h:HpM M w0 w H) {t e bytes:Nat} (hs:slOk P t e 1 bytes=true) (i:Nat) {v:Value} {xs:List Value} (hi:H[i]? = some (ob e v xs))
    {tx ty:Nat} {x:Value} {m:Nat} {news:List Value} (src:Src P 1 tx x m news w) (hb:(xs.length+m) * bytes≤140737488355328) (hml:xs.length+m≤maxLen)
    (hk:∀ v' w',HpM M w0 w' (H.set i (ob e v' (xs++news)))→K v' w') :
    ∃ u w',(Builtin.append_ #[t,tx] ty #[v,x]).run P w = .ok u w'∧K u w':=by
  obtain ⟨hu,⟨inf,z',hinf,hsz,rfl,hz,hzs⟩,hpos⟩:=slOk_spec hs
  obtain ⟨n,hn⟩:∃ n,xs.length=n:=⟨_,rfl⟩
  rw [hn] at hb hml
  have hnl:news.length=m:=by have:=src.newsLen; omega
  have hown:OB w e v xs:=h.get hi
  have same:∀ u,u=v→news=[]→(Builtin.append_ #[t,tx] ty #[v,x]).run P w = .ok u w→∃ u w',(Builtin.append_ #[t,tx] ty #[v,x]).run P w = .ok u w'∧K u w':=fun u hu hne hr=>by
    subst hu
    refine ⟨_,_,hr,hk _ w ?_⟩
    rw [hne,List.append_nil]
    have e:H.set i (ob e u xs)=H:=by
      obtain ⟨hil,hie⟩:=List.getElem?_eq_some_iff.1 hi
      rw [← hie,List.set_getElem_self]
    rw [e]; exact h
  have grow:∀ (old:Nat),old < n+m→∀ (base:Option Addr),v = .slice base n old→(Builtin.firstCells inf.size n (.slice base n old)).run P w.drew = .ok xs.toArray w.drew →
      ∃ u w',(Builtin.append_ #[t,tx] ty #[v,x]).run P w = .ok u w'∧K u w':=by
    intro old ho base hv hf
    subst hv
    have hr:=run_append_grow_src (P:=P) w t tx ty e inf z' hu hinf hz base n old xs hf x m news (by rw [hsz]; exact src) ho (by unfold maxLen at hml; omega) (growslice_fits ho hb)
    have hge:=grownCap_ge w (n+m) old e
    have hle:=grownCap_le_maxLen w (n+m) old e hml
    have hl1:(xs++news).length=n+m:=by rw [List.length_append,hn,hnl]
    have hl2:(Builtin.zeroCells z'.cells (grownCap w (n+m) old e - (n+m))).toList.length=grownCap w (n+m) old e - (n+m):=by
      rw [Array.length_toList,size_zeroCells,hzs,Nat.mul_one]
    refine ⟨_,_,hr,hk _ _ (h.upd hi ?_ (ob_ok _ _ _) (.inr ⟨w.heap.size,(Builtin.zeroCells z'.cells (grownCap w (n+m) old e - (n+m))).toList,by rw [hl1,hl2]; congr 1; omega,by rw [hl1,hl2]; omega,⟨(0,0),.inl rfl,?_⟩⟩) ?_)⟩
    · exact ⟨rfl,rfl,rfl,by simp,fun k hk _=>heap_alloc_old w.drew _ hk⟩
    · have e1:(xs++news++(Builtin.zeroCells z'.cells (grownCap w (n+m) old e - (n+m))).toList).toArray=(xs++news).toArray++Builtin.zeroCells z'.cells (grownCap w (n+m) old e - (n+m)):=by
        apply Array.ext'
        simp
      rw [e1]
      exact heap_alloc_new w.drew _
    · intro b hb'
      simp only [ob,Value.ownBlock,Option.some.injEq] at hb'
      subst hb'
      exact .inr ⟨Nat.le_refl _,by simp⟩
  rcases hown with ⟨rfl,rfl⟩ | ⟨g,zs,rfl,hmx,hbk⟩
  · have hn0:n=0:=by rw [← hn]; rfl
    subst hn0
    by_cases hm:m=0
    · subst hm
      refine same _ rfl (List.eq_nil_of_length_eq_zero hnl) ?_
      have hlen:=src.len
      have hcells:=src.cells
      have hnews:news=[]:=List.eq_nil_of_length_eq_zero hnl
      subst hnews
      rcases src.kind with ⟨e',hk'⟩ | hk' <;>
        (simp [Builtin.append_,Go.Proofs.YtmlmfmdmomegpaaGreatDoor.V.run_underlying hu,Go.Proofs.YtmlmfmdmomegpaaGreatDoor.V.run_underlying hk',sizeOf,typeInfo,hinf,hsz,hlen,Result.andThen]
         rw [hcells])
    · exact grow 0 (by omega) none rfl (by simp [Builtin.firstCells])
  · rw [hn] at grow ⊢
    by_cases hroom:n+m≤n+zs.length
    · obtain ⟨f,hf,hg⟩:=hbk
      have hst:=storeF (P:=P) g n e f news 0 (xs++zs).toArray w hg (by simpa using hf) (by simp; omega) src.one
      simp only [Nat.add_zero] at hst
      have hr:(Builtin.append_ #[t,tx] ty #[.slice (some ⟨g,0,none⟩) n (n+zs.length),x]).run P w =
          .ok (.slice (some ⟨g,0,none⟩) (n+m) (n+zs.length)) (w.setRow g ((xs++zs).toArray.toList.take n++news++(xs++zs).toArray.toList.drop (n+news.length)).toArray):=by
        have hroom':m≤zs.length:=by omega
        have hlen:=src.len
        have hcells:=src.cells
        rcases src.kind with ⟨e',hk'⟩ | hk' <;>
          (simp [Builtin.append_,Go.Proofs.YtmlmfmdmomegpaaGreatDoor.V.run_underlying hu,Go.Proofs.YtmlmfmdmomegpaaGreatDoor.V.run_underlying hk',sizeOf,typeInfo,hinf,hsz,hlen,hcells,hroom',Addr.add_lit,Result.andThen]
           simp at hst
           rw [hst])
      rw [hr]
      have hcells:((xs++zs).toArray.toList.take n++news++(xs++zs).toArray.toList.drop (n+news.length))=(xs++news)++zs.drop m:=by
        simp only [List.toList_toArray]
        rw [← hn,List.take_left,← List.drop_drop,List.drop_left,hnl]
      have hl1:(xs++news).length=n+m:=by rw [List.length_append,hnl,hn]
      have hl2:(xs++news).length+(zs.drop m).length=n+zs.length:=by rw [hl1,List.length_drop]; omega
      rw [hcells]
      refine ⟨_,_,rfl,hk _ _ (h.upd hi (grownBy_setRow w g _) (ob_ok _ _ _) (.inr ⟨g,zs.drop m,by rw [hl2,hl1],by rw [hl2,← hn]; exact hmx,⟨f,?_,setRow_heap w g _ _ e f hg⟩⟩) (fun b hb=>.inl hb))⟩
      rw [List.length_append,hl2,← hn,← List.length_append]; exact hf
    · have holds:∀ j u,xs[j]? = some u→w.drew.cell? ((⟨g,0,none⟩:Addr).add j)=some u:=fun j u hj=>by
        have:=hbk.cell j
        rw [List.getElem?_append_left (List.getElem?_eq_some_iff.1 hj).1,hj] at this
        rw [add_none,Nat.zero_add]; exact this
      exact grow (n+zs.length) (by omega) (some ⟨g,0,none⟩) rfl (by rw [hsz]; exact run_firstCells_some (P:=P) w.drew 1 n ⟨g,0,none⟩ n (n+zs.length) xs (by omega) holds)
end
end V
theorem bld123_ (w:World)  : (Instr.build 123 #[]).run Tryz.prog w = .ok (.agg #[]) w:=by kernel_rfl
theorem bld126_0_1 (w:World) (x0:ByteArray) (x1:Int):(Instr.build 126 #[(0,.string x0),(1,.int .i64 x1)]).run Tryz.prog w = .ok (.agg #[.string x0,.int .i64 x1]) w:=by kernel_rfl
theorem bld126_0 (w:World) (x0:ByteArray):(Instr.build 126 #[(0,.string x0)]).run Tryz.prog w = .ok (.agg #[.string x0,.int .i64 0]) w:=by kernel_rfl
theorem bld141_0_1_2_3_4_5_6_7_8_9_10_11_12_13_14_15_16_17_18_19 (w:World) (x0:Int) (x1:Int) (x2:Int) (x3:Int) (x4:Int) (x5:Int) (x6:Int) (x7:Int) (x8:Int) (x9:Int) (x10:Int) (x11:Int) (x12:Int) (x13:Int) (x14:Int) (x15:Int) (x16:Int) (x17:Int) (x18:Int) (x19:Int):(Instr.build 141 #[(0,.int .i64 x0),(1,.int .i64 x1),(2,.int .i64 x2),(3,.int .i64 x3),(4,.int .i64 x4),(5,.int .i64 x5),(6,.int .i64 x6),(7,.int .i64 x7),(8,.int .i64 x8),(9,.int .i64 x9),(10,.int .i64 x10),(11,.int .i64 x11),(12,.int .i64 x12),(13,.int .i64 x13),(14,.int .i64 x14),(15,.int .i64 x15),(16,.int .i64 x16),(17,.int .i64 x17),(18,.int .i64 x18),(19,.int .i64 x19)]).run Tryz.prog w = .ok (.agg #[.int .i64 x0,.int .i64 x1,.int .i64 x2,.int .i64 x3,.int .i64 x4,.int .i64 x5,.int .i64 x6,.int .i64 x7,.int .i64 x8,.int .i64 x9,.int .i64 x10,.int .i64 x11,.int .i64 x12,.int .i64 x13,.int .i64 x14,.int .i64 x15,.int .i64 x16,.int .i64 x17,.int .i64 x18,.int .i64 x19]) w:=by kernel_rfl
theorem bld190_0 (w:World) (x0:ByteArray):(Instr.build 190 #[(0,.string x0)]).run Tryz.prog w = .ok (.agg #[.string x0]) w:=by kernel_rfl
theorem bld216_0 (w:World) (x00 x01:Value):(Instr.build 216 #[(0,.agg #[x00,x01])]).run Tryz.prog w = .ok (.agg #[x00,x01]) w:=by kernel_rfl
theorem bld24_ (w:World)  : (Instr.build 24 #[]).run Tryz.prog w = .ok (.agg #[.int .i64 0,.int .i64 0,.string ⟨#[]⟩,.slice none 0 0]) w:=by kernel_rfl
theorem bld24_0_1 (w:World) (x0:Int) (x1:Int):(Instr.build 24 #[(0,.int .i64 x0),(1,.int .i64 x1)]).run Tryz.prog w = .ok (.agg #[.int .i64 x0,.int .i64 x1,.string ⟨#[]⟩,.slice none 0 0]) w:=by kernel_rfl
theorem bld24_0_1_2 (w:World) (x0:Int) (x1:Int) (x2:ByteArray):(Instr.build 24 #[(0,.int .i64 x0),(1,.int .i64 x1),(2,.string x2)]).run Tryz.prog w = .ok (.agg #[.int .i64 x0,.int .i64 x1,.string x2,.slice none 0 0]) w:=by kernel_rfl
theorem bld24_0_1_2_3 (w:World) (x0:Int) (x1:Int) (x2:ByteArray) (x3p:Option Addr) (x3n x3c:Nat):(Instr.build 24 #[(0,.int .i64 x0),(1,.int .i64 x1),(2,.string x2),(3,.slice x3p x3n x3c)]).run Tryz.prog w = .ok (.agg #[.int .i64 x0,.int .i64 x1,.string x2,.slice x3p x3n x3c]) w:=by kernel_rfl
theorem bld24_1_2 (w:World) (x0:Int) (x1:ByteArray):(Instr.build 24 #[(1,.int .i64 x0),(2,.string x1)]).run Tryz.prog w = .ok (.agg #[.int .i64 0,.int .i64 x0,.string x1,.slice none 0 0]) w:=by kernel_rfl
theorem bld34_0_1_2_3 (w:World) (x00 x01 x02 x03:Value) (x10 x11 x12 x13:Value) (x20 x21 x22 x23:Value) (x30 x31 x32 x33:Value):(Instr.build 34 #[(0,.agg #[x00,x01,x02,x03]),(1,.agg #[x10,x11,x12,x13]),(2,.agg #[x20,x21,x22,x23]),(3,.agg #[x30,x31,x32,x33])]).run Tryz.prog w = .ok (.agg #[x00,x01,x02,x03,x10,x11,x12,x13,x20,x21,x22,x23,x30,x31,x32,x33]) w:=by kernel_rfl
theorem bld54_0_1 (w:World) (x0:Int) (x1:ByteArray):(Instr.build 54 #[(0,.int .i64 x0),(1,.string x1)]).run Tryz.prog w = .ok (.agg #[.int .i64 x0,.string x1]) w:=by kernel_rfl
theorem bld54_0 (w:World) (x0:Int):(Instr.build 54 #[(0,.int .i64 x0)]).run Tryz.prog w = .ok (.agg #[.int .i64 x0,.string ⟨#[]⟩]) w:=by kernel_rfl
theorem bld63_0_1 (w:World) (x0:ByteArray) (x1:Int):(Instr.build 63 #[(0,.string x0),(1,.int .i64 x1)]).run Tryz.prog w = .ok (.agg #[.string x0,.int .i64 x1]) w:=by kernel_rfl
theorem mks107_2_0_1 (w:World) (x00 x01 x02 x03:Value) (x10 x11 x12 x13:Value):(Instr.buildSlice 107 2 #[(0,.agg #[x00,x01,x02,x03]),(1,.agg #[x10,x11,x12,x13])]).run Tryz.prog w = .ok (.slice (some ⟨w.heap.size,0,none⟩) 2 2) (w.alloc (.cells #[x00,x01,x02,x03,x10,x11,x12,x13] 24)):=by kernel_rfl
theorem mks107_4_0_1_2_3 (w:World) (x00 x01 x02 x03:Value) (x10 x11 x12 x13:Value) (x20 x21 x22 x23:Value) (x30 x31 x32 x33:Value):(Instr.buildSlice 107 4 #[(0,.agg #[x00,x01,x02,x03]),(1,.agg #[x10,x11,x12,x13]),(2,.agg #[x20,x21,x22,x23]),(3,.agg #[x30,x31,x32,x33])]).run Tryz.prog w = .ok (.slice (some ⟨w.heap.size,0,none⟩) 4 4) (w.alloc (.cells #[x00,x01,x02,x03,x10,x11,x12,x13,x20,x21,x22,x23,x30,x31,x32,x33] 24)):=by kernel_rfl
theorem mks22_1_0 (w:World) (x00 x01:Value):(Instr.buildSlice 22 1 #[(0,.agg #[x00,x01])]).run Tryz.prog w = .ok (.slice (some ⟨w.heap.size,0,none⟩) 1 1) (w.alloc (.cells #[x00,x01] 54)):=by kernel_rfl
theorem mks22_5_0_1_2_3_4 (w:World) (x00 x01:Value) (x10 x11:Value) (x20 x21:Value) (x30 x31:Value) (x40 x41:Value):(Instr.buildSlice 22 5 #[(0,.agg #[x00,x01]),(1,.agg #[x10,x11]),(2,.agg #[x20,x21]),(3,.agg #[x30,x31]),(4,.agg #[x40,x41])]).run Tryz.prog w = .ok (.slice (some ⟨w.heap.size,0,none⟩) 5 5) (w.alloc (.cells #[x00,x01,x10,x11,x20,x21,x30,x31,x40,x41] 54)):=by kernel_rfl
theorem mks48_1_0 (w:World) (x0:Int):(Instr.buildSlice 48 1 #[(0,.int .i64 x0)]).run Tryz.prog w = .ok (.slice (some ⟨w.heap.size,0,none⟩) 1 1) (w.alloc (.cells #[.int .i64 x0] 3)):=by kernel_rfl
theorem mks88_1_0 (w:World) (x0:Int):(Instr.buildSlice 88 1 #[(0,.int .u8 x0)]).run Tryz.prog w = .ok (.slice (some ⟨w.heap.size,0,none⟩) 1 1) (w.alloc (.cells #[.int .u8 x0] 5)):=by kernel_rfl
def hostB (s:ByteArray):Bool:=decide (s.size=4) || decide (s.size=16)
theorem hostB_t {s:ByteArray} (h:hostB s=true):s.size=4∨s.size=16:=by
 unfold hostB at h
 simpa using h
theorem hostB_of {s:ByteArray} (h:s.size=4∨s.size=16):hostB s=true:=by
 unfold hostB
 simpa using h
def addrB (h:ByteArray) (p:Int):Bool:=hostB h && (decide (0≤p) && decide (p≤65535))
theorem addrB_t {h:ByteArray} {p:Int} (x:addrB h p=true):hostB h=true∧0≤p∧p≤65535:=by
 unfold addrB at x
 simpa using x
theorem addrB_of {h:ByteArray} {p:Int} (h1:hostB h=true) (h2:0≤p) (h3:p≤65535):addrB h p=true:=by
 unfold addrB
 rw [h1,decide_eq_true h2,decide_eq_true h3]
 rfl
theorem aread_t (s:ByteArray) (h:hostB s=true):PureF Tryz.prog 123 #[.string s] (.tuple #[.agg #[.string s],.int .i64 0]):=by
 have h:=hostB_t h
 first | refine v_pure TTok FFok Tryz.func123 rfl rfl fun w0=>?_ | refine v_pure (args:=[]) TTok FFok Tryz.func123 rfl rfl fun w0=>?_
 conv=>whnf
 refine VSeq.mk fun Kq hKq=>?_
 conv=>whnf
 have hp:=Hp.nil w0
 (refine hp.kalloc z190 fun al190 w hp hx=>?_; conv=>whnf)
 (refine hKq _ _ _ (.refl _) ?_; clear hKq Kq; conv=>whnf)
 (refine VSeq.mk fun Kq hKq=>?_; conv=>whnf)
 (refine VSeq.mk fun Kq hKq=>?_; conv=>whnf)
 (refine VSeq.mk fun Kq hKq=>?_; conv=>whnf)
 (refine hKq _ _ _ (.refl _) ?_; clear hKq Kq; conv=>whnf)
 (refine ⟨fun hd=>?_,fun hd=>?_⟩ <;> (try simp only [Bool.not_eq_true',Bool.not_eq_false',decide_eq_true_eq,decide_eq_false_iff_not,ne_eq,Classical.not_not] at hd) <;> (conv=>whnf))
 (refine hKq _ _ _ (.refl _) ?_; clear hKq Kq; conv=>whnf)
 (refine And.intro (fun h=>absurd (of_decide_eq_true h) (by first | (intro h2; exact absurd rfl h2) | omega | decide)) (fun _=>?_); conv=>whnf)
 (refine hKq _ _ _ (.refl _) ?_; clear hKq Kq; conv=>whnf)
 (refine VSeq.mk fun Kq hKq=>?_; conv=>whnf)
 (refine ⟨_,_,bld190_0 _ _,?_⟩; conv=>whnf)
 (refine hp.kstA TTok rfl 0 rfl rfl (oneC_of rfl) (by rfl) fun w hp=>?_; try simp only [List.set_cons_zero,List.set_cons_succ,EV.val] at hp; conv=>whnf)
 (refine hKq _ _ _ (.refl _) ?_; clear hKq Kq; conv=>whnf)
 (refine ⟨_,Blk.lvN (hp.get (i:=0) rfl) TTok rfl rfl,?_⟩; conv=>whnf)
 (exact ⟨rfl,hp.ext⟩)
 (refine hKq _ _ _ (.refl _) ?_; clear hKq Kq; conv=>whnf)
 (refine hKq _ _ _ (.refl _) ?_; clear hKq Kq; conv=>whnf)
 (refine VSeq.mk fun Kq hKq=>?_; conv=>whnf)
 (refine ⟨_,_,bld190_0 _ _,?_⟩; conv=>whnf)
 (refine hp.kstA TTok rfl 0 rfl rfl (oneC_of rfl) (by rfl) fun w hp=>?_; try simp only [List.set_cons_zero,List.set_cons_succ,EV.val] at hp; conv=>whnf)
 (refine hKq _ _ _ (.refl _) ?_; clear hKq Kq; conv=>whnf)
 (refine ⟨_,Blk.lvN (hp.get (i:=0) rfl) TTok rfl rfl,?_⟩; conv=>whnf)
 (exact ⟨rfl,hp.ext⟩)
theorem acheck_t (h:ByteArray) (p:Int) (x:addrB h p=true):PureF Tryz.prog 83 #[.agg #[.string h,.int .i64 p]] (.int .i64 0):=by
 obtain ⟨h1,h2,h3⟩:=addrB_t x
 first | refine v_pure TTok FFok Tryz.func83 rfl rfl fun w0=>?_ | refine v_pure (args:=[]) TTok FFok Tryz.func83 rfl rfl fun w0=>?_
 conv=>whnf
 refine VSeq.mk fun Kq hKq=>?_
 conv=>whnf
 have hp:=Hp.nil w0
 (refine hp.kboxA fun q w hp hx=>?_; conv=>whnf)
 (refine hKq _ _ _ (.refl _) ?_; clear hKq Kq; conv=>whnf)
 (refine VSeq.mk fun Kq hKq=>?_; conv=>whnf)
 (refine VSeq.mk fun Kq hKq=>?_; conv=>whnf)
 (refine ⟨_,_,Blk.ld (hp.get (i:=0) rfl) TTok rfl rfl,?_⟩; conv=>whnf)
 (refine V.CallW.out ?_; (conv=>arg 3; dsimp only [EV.val,List.toList_toArray,List.nil_append,List.append_nil,List.cons_append]); (with_reducible refine V.PureF.useW (aread_t _ (by assumption)) fun w hx=>?_); try (have hp:=hp.call hx); conv=>whnf)
 (refine hp.kalloc z190 fun al190 w hp hx=>?_; conv=>whnf)
 (refine hp.kstA TTok rfl 0 rfl rfl (oneC_of rfl) (by rfl) fun w hp=>?_; try simp only [List.set_cons_zero,List.set_cons_succ,EV.val] at hp; conv=>whnf)
 (refine hKq _ _ _ (.refl _) ?_; clear hKq Kq; conv=>whnf)
 (refine VSeq.mk fun Kq hKq=>?_; conv=>whnf)
 (refine VSeq.mk fun Kq hKq=>?_; conv=>whnf)
 (refine hKq _ _ _ (.refl _) ?_; clear hKq Kq; conv=>whnf)
 (refine VSeq.mk fun Kq hKq=>?_; conv=>whnf)
 (refine And.intro (fun h=>absurd (of_decide_eq_true h) (by first | (intro h2; exact absurd rfl h2) | omega | decide)) (fun _=>?_); conv=>whnf)
 (refine ⟨_,_,Blk.ld (hp.get (i:=1) rfl) TTok rfl rfl,?_⟩; conv=>whnf)
 (refine hKq _ _ _ (.refl _) ?_; clear hKq Kq; conv=>whnf)
 (refine And.intro (fun h=>absurd (of_decide_eq_true h) (by first | (intro h2; exact absurd rfl h2) | omega | decide)) (fun _=>?_); conv=>whnf)
 (refine ⟨_,_,Blk.ld (hp.get (i:=1) rfl) TTok rfl rfl,?_⟩; conv=>whnf)
 (refine hKq _ _ _ (.refl _) ?_; clear hKq Kq; conv=>whnf)
 (refine And.intro (fun h=>absurd (of_decide_eq_true h) (by first | (intro h2; exact absurd rfl h2) | omega | decide)) (fun _=>?_); conv=>whnf)
 (refine hKq _ _ _ (.refl _) ?_; clear hKq Kq; conv=>whnf)
 (refine VSeq.mk fun Kq hKq=>?_; conv=>whnf)
 (refine hKq _ _ _ (.refl _) ?_; clear hKq Kq; conv=>whnf)
 (exact ⟨rfl,hp.ext⟩)
theorem family_4 (s:ByteArray) (h:s.size=4):PureF Tryz.prog 82 #[.string s] (.tuple #[.int .i64 1,.int .i64 0]):=by
 have h1:=hostB_of (.inl h)
 first | refine v_pure TTok FFok Tryz.func82 rfl rfl fun w0=>?_ | refine v_pure (args:=[]) TTok FFok Tryz.func82 rfl rfl fun w0=>?_
 conv=>whnf
 refine VSeq.mk fun Kq hKq=>?_
 conv=>whnf
 refine hKq _ _ _ (.refl _) ?_
 clear hKq Kq
 conv=>whnf
 refine VSeq.mk fun Kq hKq=>?_
 conv=>whnf
 refine VSeq.mk fun Kq hKq=>?_
 conv=>whnf
 have hp:=Hp.nil w0
 (refine V.CallW.out ?_; (conv=>arg 3; dsimp only [EV.val,List.toList_toArray,List.nil_append,List.append_nil,List.cons_append]); (with_reducible refine V.PureF.useW (aread_t _ (by assumption)) fun w hx=>?_); try (have hp:=hp.call hx); conv=>whnf)
 (refine hp.kalloc z190 fun al190 w hp hx=>?_; conv=>whnf)
 (refine hp.kstA TTok rfl 0 rfl rfl (oneC_of rfl) (by rfl) fun w hp=>?_; try simp only [List.set_cons_zero,List.set_cons_succ,EV.val] at hp; conv=>whnf)
 (refine hKq _ _ _ (.refl _) ?_; clear hKq Kq; conv=>whnf)
 (refine VSeq.mk fun Kq hKq=>?_; conv=>whnf)
 (refine hKq _ _ _ (.refl _) ?_; clear hKq Kq; conv=>whnf)
 (refine And.intro (fun h=>absurd (of_decide_eq_true h) (by first | (intro h2; exact absurd rfl h2) | omega | decide)) (fun _=>?_); conv=>whnf)
 (refine hKq _ _ _ (.refl _) ?_; clear hKq Kq; conv=>whnf)
 (refine VSeq.mk fun Kq hKq=>?_; conv=>whnf)
 (refine VSeq.mk fun Kq hKq=>?_; conv=>whnf)
 (refine hKq _ _ _ (.refl _) ?_; clear hKq Kq; conv=>whnf)
 (refine And.intro (fun _=>?_) (fun h=>absurd (by first | rfl | assumption | omega | decide) (of_decide_eq_false h)); conv=>whnf)
 (refine VSeq.mk fun Kq hKq=>?_; conv=>whnf)
 (refine hKq _ _ _ (.refl _) ?_; clear hKq Kq; conv=>whnf)
 (exact ⟨rfl,hp.ext⟩)
theorem family_6 (s:ByteArray) (h:s.size=16):PureF Tryz.prog 82 #[.string s] (.tuple #[.int .i64 2,.int .i64 0]):=by
 have h1:=hostB_of (.inr h)
 first | refine v_pure TTok FFok Tryz.func82 rfl rfl fun w0=>?_ | refine v_pure (args:=[]) TTok FFok Tryz.func82 rfl rfl fun w0=>?_
 conv=>whnf
 refine VSeq.mk fun Kq hKq=>?_
 conv=>whnf
 refine hKq _ _ _ (.refl _) ?_
 clear hKq Kq
 conv=>whnf
 refine VSeq.mk fun Kq hKq=>?_
 conv=>whnf
 refine VSeq.mk fun Kq hKq=>?_
 conv=>whnf
 have hp:=Hp.nil w0
 (refine V.CallW.out ?_; (conv=>arg 3; dsimp only [EV.val,List.toList_toArray,List.nil_append,List.append_nil,List.cons_append]); (with_reducible refine V.PureF.useW (aread_t _ (by assumption)) fun w hx=>?_); try (have hp:=hp.call hx); conv=>whnf)
 (refine hp.kalloc z190 fun al190 w hp hx=>?_; conv=>whnf)
 (refine hp.kstA TTok rfl 0 rfl rfl (oneC_of rfl) (by rfl) fun w hp=>?_; try simp only [List.set_cons_zero,List.set_cons_succ,EV.val] at hp; conv=>whnf)
 (refine hKq _ _ _ (.refl _) ?_; clear hKq Kq; conv=>whnf)
 (refine VSeq.mk fun Kq hKq=>?_; conv=>whnf)
 (refine hKq _ _ _ (.refl _) ?_; clear hKq Kq; conv=>whnf)
 (refine And.intro (fun h=>absurd (of_decide_eq_true h) (by first | (intro h2; exact absurd rfl h2) | omega | decide)) (fun _=>?_); conv=>whnf)
 (refine hKq _ _ _ (.refl _) ?_; clear hKq Kq; conv=>whnf)
 (refine VSeq.mk fun Kq hKq=>?_; conv=>whnf)
 (refine VSeq.mk fun Kq hKq=>?_; conv=>whnf)
 (refine hKq _ _ _ (.refl _) ?_; clear hKq Kq; conv=>whnf)
 (refine And.intro (fun h=>absurd (of_decide_eq_true h) (by first | (intro h2; exact absurd rfl h2) | omega | decide)) (fun _=>?_); conv=>whnf)
 (refine hKq _ _ _ (.refl _) ?_; clear hKq Kq; conv=>whnf)
 (refine VSeq.mk fun Kq hKq=>?_; conv=>whnf)
 (refine hKq _ _ _ (.refl _) ?_; clear hKq Kq; conv=>whnf)
 (exact ⟨rfl,hp.ext⟩)
def beL (n v:Nat):List UInt8:=(List.range n).map fun i=>UInt8.ofNat (v / 2 ^ (8 * (n - 1 - i)))
def beB (n v:Nat):ByteArray:=⟨(beL n v).toArray⟩
theorem beL_len (n v:Nat):(beL n v).length=n:=by unfold beL; rw [List.length_map,List.length_range]
theorem beB_size (n v:Nat):(beB n v).size=n:=by unfold beB; rw [bA_size,beL_len]
theorem beL_get (n v i:Nat) (h:i < n):(beL n v).getD i 0=UInt8.ofNat (v / 2 ^ (8 * (n - 1 - i))):=by
 unfold beL
 rw [List.getD_eq_getElem?_getD,List.getElem?_map,List.getElem?_range h]
 rfl
theorem set_bytes (l:List UInt8) (n i:Nat) (h:i < n) (hl:l.length=n):(bytesV (l.take i++List.replicate (n - i) 0)).set i (.int .u8 (((l.getD i 0).toNat:Nat):Int))=bytesV (l.take (i+1)++List.replicate (n - (i+1)) 0):=by
 have e1:n - i=(n - (i+1))+1:=by omega
 have e2:l.take (i+1)=l.take i++[l.getD i 0]:=by
  rw [List.take_add_one,List.getD_eq_getElem?_getD,List.getElem?_eq_getElem (by omega)]; rfl
 rw [e1,List.replicate_succ,e2]
 unfold bytesV
 rw [List.map_append,List.map_append,List.map_append,List.map_cons,List.set_append_right _ _ (by rw [List.length_map,List.length_take]; omega),List.length_map,List.length_take,Nat.min_eq_left (by omega),Nat.sub_self,List.set_cons_zero,List.append_assoc]
 rfl
theorem shr_byte (v m:Nat):((v:Nat):Int) / 2 ^ m % 256=(((UInt8.ofNat (v / 2 ^ m)).toNat:Nat):Int):=by
 rw [UInt8.toNat_ofNat']
 have:((v:Nat):Int) / 2 ^ m=((v / 2 ^ m:Nat):Int):=by
  rw [Int.natCast_ediv,Int.natCast_pow]; rfl
 rw [this]
 omega
theorem shr_zero {v m:Nat} (h:v < 2 ^ m):((v:Nat):Int) / 2 ^ m=0:=by
 have:((v:Nat):Int) / 2 ^ m=((v / 2 ^ m:Nat):Int):=by
  rw [Int.natCast_ediv,Int.natCast_pow]; rfl
 rw [this,Nat.div_eq_of_lt h]; rfl
theorem Put_ok (n v:Nat) (h1:1≤n) (h7:n≤7) (hv:v < 2 ^ (8 * n)):PureF Tryz.prog 42 #[.int .i64 n,.int .i64 v] (.tuple #[.string (beB n v),.int .i64 0]):=by
 have hv56:v < 72057594037927936:=Nat.lt_of_lt_of_le hv (by
  have:(2:Nat) ^ (8 * n)≤2 ^ 56:=Nat.pow_le_pow_right (by decide) (by omega)
  exact this)
 have hz:=shr_zero hv
 first | refine v_pure TTok FFok Tryz.func42 rfl rfl fun w0=>?_ | refine v_pure (args:=[]) TTok FFok Tryz.func42 rfl rfl fun w0=>?_
 conv=>whnf
 refine VSeq.mk fun Kq hKq=>?_
 conv=>whnf
 refine hKq _ _ _ (.refl _) ?_
 clear hKq Kq
 conv=>whnf
 refine VSeq.mk fun Kq hKq=>?_
 conv=>whnf
 refine VSeq.mk fun Kq hKq=>?_
 conv=>whnf
 refine VSeq.mk fun Kq hKq=>?_
 conv=>whnf
 refine hKq _ _ _ (.refl _) ?_
 clear hKq Kq
 conv=>whnf
 refine VSeq.mk fun Kq hKq=>?_
 conv=>whnf
 have hp:=Hp.nil w0
 (refine And.intro (fun h=>absurd (of_decide_eq_true h) (by first | (intro h2; exact absurd rfl h2) | omega | decide)) (fun _=>?_); conv=>whnf)
 (refine hKq _ _ _ (.refl _) ?_; clear hKq Kq; conv=>whnf)
 (refine And.intro (fun h=>absurd (of_decide_eq_true h) (by first | (intro h2; exact absurd rfl h2) | omega | decide)) (fun _=>?_); conv=>whnf)
 (refine hKq _ _ _ (.refl _) ?_; clear hKq Kq; conv=>whnf)
 (refine And.intro (fun h=>absurd (of_decide_eq_true h) (by first | (intro h2; exact absurd rfl h2) | omega | decide)) (fun _=>?_); conv=>whnf)
 (refine VSeq.mk fun Kq hKq=>?_; conv=>whnf)
 (refine Or.inl (And.intro (by first | omega | decide) ?_); conv=>whnf)
 refine ⟨8 * n,⟨by first | rfl | omega,by omega⟩,?_⟩
 conv=>whnf
 refine hKq _ _ _ (.refl _) ?_
 clear hKq Kq
 conv=>whnf
 rw [hz]
 (refine And.intro (fun h=>absurd (of_decide_eq_true h) (by first | (intro h2; exact absurd rfl h2) | omega | decide)) (fun _=>?_); conv=>whnf)
 (refine hKq _ _ _ (.refl _) ?_; clear hKq Kq; conv=>whnf)
 (refine VSeq.mk fun Kq hKq=>?_; conv=>whnf)
 refine hp.kmkS sl88 z5 n (by omega) (by unfold maxLen; omega) fun b w hp hx=>?_
 rw [bytesV_rep] at hp
 conv=>whnf
 refine hKq _ _ _ (.refl _) ?_
 clear hKq Kq
 conv=>whnf
 refine VSeq.mk fun Kq hKq=>?_
 conv=>whnf
 refine VSeq.mk fun Kq hKq=>?_
 conv=>whnf
 refine hKq _ _ _ (.refl _) ?_
 clear hKq Kq
 conv=>whnf
 have hp:HpM [] w0 w [blk b (bytesV ((beL n v).take 0++List.replicate (n - 0) 0)) 5]:=hp
 refine ⟨fun mm e w'=>∃ (i:Nat),mm+i=n∧e=[(0,.v (.int .i64 n)),(1,.v (.int .i64 v)),(6,.v (.slice (some ⟨b,0,none⟩) n n)),(28,.v (.int .i64 n)),(29,.v (.int .i64 i))]∧HpM [] w0 w' [blk b (bytesV ((beL n v).take i++List.replicate (n - i) 0)) 5],
  ⟨n,_,⟨0,by omega,rfl,hp⟩,sub_cons rfl (sub_cons rfl (sub_cons rfl (sub_cons rfl (sub_cons rfl sub_nil))))⟩,?_⟩
 clear hp hx
 repeat clear hp
 rintro mm _ w ⟨i,hmm,rfl,hp⟩
 conv=>whnf
 refine VSeq.mk fun Kq hKq=>?_
 conv=>whnf
 refine hKq _ _ _ (.refl _) ?_
 clear hKq Kq
 conv=>whnf
 refine VSeq.mk fun Kq hKq=>?_
 conv=>whnf
 refine ⟨fun hlt=>?_,fun hlt=>?_⟩
 ·have hlt:=of_decide_eq_true hlt
  conv=>whnf
  refine hKq _ _ _ (.refl _) ?_
  clear hKq Kq
  conv=>whnf
  refine VSeq.mk fun Kq hKq=>?_
  conv=>whnf
  refine VSeq.mk fun Kq hKq=>?_
  conv=>whnf
  refine hKq _ _ _ (.refl _) ?_
  clear hKq Kq
  conv=>whnf
  refine Or.inl (And.intro (by omega) ?_)
  conv=>whnf
  refine Or.inl (And.intro (by omega) ?_)
  conv=>whnf
  refine Or.inl (And.intro (by omega) ?_)
  conv=>whnf
  have hi:i < n:=by omega
  have e8:(8:Int) * (((n:Nat):Int) - 1 - ((i:Nat):Int))=((8 * (n - 1 - i):Nat):Int):=by omega
  refine ⟨8 * (n - 1 - i),⟨by first | rfl | omega,by omega⟩,?_⟩
  conv=>whnf
  rw [shr_byte,← beL_get n v i hi]
  refine ⟨i,⟨by first | rfl | omega,by omega⟩,?_⟩
  conv=>whnf
  refine hp.kst1 (off:=i) TTok (by rfl) 0 (by rfl) (by rfl) (by rfl) (by rw [bytesV_len,List.length_append,List.length_take,beL_len,List.length_replicate]; omega) fun w hp=>?_
  try simp only [List.set_cons_zero,List.set_cons_succ,EV.val] at hp
  conv=>whnf
  refine hKq _ _ _ (.refl _) ?_
  clear hKq Kq
  conv=>whnf
  refine Or.inl (And.intro (by omega) ?_)
  conv=>whnf
  rw [set_bytes (beL n v) n i hi (beL_len n v)] at hp
  exact ⟨mm - 1,_,by omega,⟨i+1,by omega,rfl,hp⟩,sub_cons rfl (sub_cons rfl (sub_cons rfl (sub_cons rfl (sub_cons rfl sub_nil))))⟩
 ·have hlt:=of_decide_eq_false hlt
  conv=>whnf
  clear hKq Kq
  refine hKq _ _ _ (.refl _) ?_
  clear hKq Kq
  conv=>whnf
  refine VSeq.mk fun Kq hKq=>?_
  conv=>whnf
  obtain rfl:i=n:=by omega
  rw [Nat.sub_self,List.replicate_zero,List.append_nil,List.take_of_length_le (by rw [beL_len]; exact Nat.le_refl _)] at hp
  refine ⟨_,_,Blk.str (l:=beL i v) (hp.get (i:=0) rfl) TTok rfl rfl rfl rfl (beL_len i v),?_⟩
  conv=>whnf
  refine hKq _ _ _ (.refl _) ?_
  clear hKq Kq
  conv=>whnf
  exact ⟨rfl,hp.ext⟩
theorem unit4_p:PureF Tryz.prog 141 #[.int .i64 4] (.bool true):=by
 have h64:PureF Tryz.prog 179 #[.int .u64 4] (.int .i64 1):=by
  first | refine v_pure TTok FFok Tryz.func179 rfl rfl fun w0=>?_ | refine v_pure (args:=[]) TTok FFok Tryz.func179 rfl rfl fun w0=>?_
  conv=>whnf
  refine VSeq.mk fun Kq hKq=>?_
  conv=>whnf
  refine hKq _ _ _ (.refl _) ?_
  clear hKq Kq
  conv=>whnf
  refine VSeq.mk fun Kq hKq=>?_
  conv=>whnf
  have hp:=Hp.nil w0
  (refine ⟨1,⟨rfl,by decide⟩,?_⟩; conv=>whnf)
  (refine ⟨_,_,_,⟨rfl,rfl,by decide,by decide⟩,rfl,?_⟩; conv=>whnf)
  (refine ⟨_,_,_,⟨rfl,rfl,by decide,by decide⟩,rfl,?_⟩; conv=>whnf)
  (refine hKq _ _ _ (.refl _) ?_; clear hKq Kq; conv=>whnf)
  (refine VSeq.mk fun Kq hKq=>?_; conv=>whnf)
  (refine ⟨2,⟨rfl,by decide⟩,?_⟩; conv=>whnf)
  (refine ⟨_,_,_,⟨rfl,rfl,by decide,by decide⟩,rfl,?_⟩; conv=>whnf)
  (refine ⟨_,_,_,⟨rfl,rfl,by decide,by decide⟩,rfl,?_⟩; conv=>whnf)
  (refine hKq _ _ _ (.refl _) ?_; clear hKq Kq; conv=>whnf)
  (refine VSeq.mk fun Kq hKq=>?_; conv=>whnf)
  (refine ⟨_,⟨(Int.toNat_of_nonneg (by decide)).symm,by decide⟩,?_⟩; conv=>whnf)
  (refine ⟨_,_,_,⟨rfl,rfl,by decide,by decide⟩,rfl,?_⟩; conv=>whnf)
  (refine hKq _ _ _ (.refl _) ?_; clear hKq Kq; conv=>whnf)
  (refine VSeq.mk fun Kq hKq=>?_; conv=>whnf)
  (refine ⟨_,⟨(Int.toNat_of_nonneg (by decide)).symm,by decide⟩,?_⟩; conv=>whnf)
  (refine hKq _ _ _ (.refl _) ?_; clear hKq Kq; conv=>whnf)
  (refine VSeq.mk fun Kq hKq=>?_; conv=>whnf)
  (refine ⟨_,⟨(Int.toNat_of_nonneg (by decide)).symm,by decide⟩,?_⟩; conv=>whnf)
  (refine hKq _ _ _ (.refl _) ?_; clear hKq Kq; conv=>whnf)
  (refine VSeq.mk fun Kq hKq=>?_; conv=>whnf)
  (refine ⟨_,⟨(Int.toNat_of_nonneg (by decide)).symm,by decide⟩,?_⟩; conv=>whnf)
  (refine hKq _ _ _ (.refl _) ?_; clear hKq Kq; conv=>whnf)
  (refine VSeq.mk fun Kq hKq=>?_; conv=>whnf)
  (refine Or.inl (And.intro (by first | omega | decide) ?_); conv=>whnf)
  (refine ⟨_,_,_,⟨rfl,rfl,by decide,by decide⟩,rfl,?_⟩; conv=>whnf)
  (refine hKq _ _ _ (.refl _) ?_; clear hKq Kq; conv=>whnf)
  (exact ⟨rfl,hp.ext⟩)
 have h1:PureF Tryz.prog 164 #[.int .u64 4] (.int .i64 1):=by
  first | refine v_pure TTok FFok Tryz.func164 rfl rfl fun w0=>?_ | refine v_pure (args:=[]) TTok FFok Tryz.func164 rfl rfl fun w0=>?_
  conv=>whnf
  refine VSeq.mk fun Kq hKq=>?_
  conv=>whnf
  refine hKq _ _ _ (.refl _) ?_
  clear hKq Kq
  conv=>whnf
  refine VSeq.mk fun Kq hKq=>?_
  conv=>whnf
  refine hKq _ _ _ (.refl _) ?_
  clear hKq Kq
  conv=>whnf
  refine VSeq.mk fun Kq hKq=>?_
  conv=>whnf
  have hp:=Hp.nil w0
  (refine V.CallW.out ?_; (conv=>arg 3; dsimp only [EV.val,List.toList_toArray,List.nil_append,List.append_nil,List.cons_append]); (with_reducible refine V.PureF.useW (h64) fun w hx=>?_); try (have hp:=hp.call hx); conv=>whnf)
  (refine hKq _ _ _ (.refl _) ?_; clear hKq Kq; conv=>whnf)
  (exact ⟨rfl,hp.ext⟩)
 first | refine v_pure TTok FFok Tryz.func141 rfl rfl fun w0=>?_ | refine v_pure (args:=[]) TTok FFok Tryz.func141 rfl rfl fun w0=>?_
 conv=>whnf
 refine VSeq.mk fun Kq hKq=>?_
 conv=>whnf
 refine hKq _ _ _ (.refl _) ?_
 clear hKq Kq
 conv=>whnf
 refine VSeq.mk fun Kq hKq=>?_
 conv=>whnf
 refine VSeq.mk fun Kq hKq=>?_
 conv=>whnf
 refine hKq _ _ _ (.refl _) ?_
 clear hKq Kq
 conv=>whnf
 refine VSeq.mk fun Kq hKq=>?_
 conv=>whnf
 have hp:=Hp.nil w0
 (refine And.intro (fun _=>?_) (fun h=>absurd (by first | rfl | assumption | omega | decide) (of_decide_eq_false h)); conv=>whnf)
 (refine hKq _ _ _ (.refl _) ?_; clear hKq Kq; conv=>whnf)
 (refine And.intro (fun _=>?_) (fun h=>absurd (by first | rfl | assumption | omega | decide) (of_decide_eq_false h)); conv=>whnf)
 (refine And.intro (by first | omega | decide) ?_; conv=>whnf)
 (refine V.CallW.out ?_; (conv=>arg 3; dsimp only [EV.val,List.toList_toArray,List.nil_append,List.append_nil,List.cons_append]); (with_reducible refine V.PureF.useW (h1) fun w hx=>?_); try (have hp:=hp.call hx); conv=>whnf)
 (refine hKq _ _ _ (.refl _) ?_; clear hKq Kq; conv=>whnf)
 (exact ⟨rfl,hp.ext⟩)
def padN (n:Nat):Nat:=(4 - n % 4) % 4
def padB (s:ByteArray):ByteArray:=⟨(s.data.toList++List.replicate (padN s.size) 0).toArray⟩
theorem padB_size (s:ByteArray):(padB s).size=(s.size+3) / 4 * 4:=by
 unfold padB padN
 rw [bA_size,List.length_append,List.length_replicate,toList_len]
 omega
theorem rep_snoc (l:List UInt8) (k:Nat):bytesV (l++List.replicate k 0)++[.int .u8 0]=bytesV (l++List.replicate (k+1) 0):=by
 rw [List.replicate_succ',← List.append_assoc]
 unfold bytesV
 rw [List.map_append (l₁:=l++List.replicate k 0)]
 rfl
theorem Pad_ok (s:ByteArray) (hs:s.size≤100000):PureF Tryz.prog 116 #[.string s,.int .i64 4] (.tuple #[.string (padB s),.int .i64 0]):=by
 have hsl:=toList_len s
 first | refine v_pure TTok FFok Tryz.func116 rfl rfl fun w0=>?_ | refine v_pure (args:=[]) TTok FFok Tryz.func116 rfl rfl fun w0=>?_
 conv=>whnf
 refine VSeq.mk fun Kq hKq=>?_
 conv=>whnf
 refine hKq _ _ _ (.refl _) ?_
 clear hKq Kq
 conv=>whnf
 refine VSeq.mk fun Kq hKq=>?_
 conv=>whnf
 refine VSeq.mk fun Kq hKq=>?_
 conv=>whnf
 have hp:=Hp.nil w0
 (refine V.CallW.out ?_; (conv=>arg 3; dsimp only [EV.val,List.toList_toArray,List.nil_append,List.append_nil,List.cons_append]); (with_reducible refine V.PureF.useW (unit4_p) fun w hx=>?_); try (have hp:=hp.call hx); conv=>whnf)
 (refine hKq _ _ _ (.refl _) ?_; clear hKq Kq; conv=>whnf)
 (refine And.intro (fun h=>absurd h (by decide)) (fun _=>?_); conv=>whnf)
 (refine hKq _ _ _ (.refl _) ?_; clear hKq Kq; conv=>whnf)
 (refine VSeq.mk fun Kq hKq=>?_; conv=>whnf)
 refine hp.kbytesO TTok rfl rfl rfl (by unfold maxLen; omega) fun v w hp hx=>?_
 conv=>whnf
 refine hKq _ _ _ (.refl _) ?_
 clear hKq Kq
 conv=>whnf
 refine VSeq.mk fun Kq hKq=>?_
 conv=>whnf
 have hp:HpM [] w0 w [ob 5 v (bytesV (s.data.toList++List.replicate 0 0))]:=by rw [List.replicate_zero,List.append_nil]; exact hp
 refine ⟨fun mm e w'=>∃ (k:Nat) (v:Value),mm+k=padN s.size∧e=[(1,.v (.int .i64 4)),(6,.v v)]∧HpM [] w0 w' [ob 5 v (bytesV (s.data.toList++List.replicate k 0))],
  ⟨padN s.size,_,⟨0,v,by omega,rfl,hp⟩,sub_cons rfl (sub_cons rfl sub_nil)⟩,?_⟩
 clear hp hx
 repeat clear hp
 rintro mm _ w ⟨k,v,hmm,rfl,hp⟩
 have hl:(bytesV (s.data.toList++List.replicate k 0)).length=s.size+k:=by rw [bytesV_len,List.length_append,List.length_replicate,hsl]
 obtain ⟨p,c,rfl⟩:=OB.shape (hp.get (i:=0) rfl)
 unfold padN at hmm
 conv=>whnf
 refine VSeq.mk fun Kq hKq=>?_
 conv=>whnf
 refine VSeq.mk fun Kq hKq=>?_
 conv=>whnf
 refine And.intro (by omega) ?_
 conv=>whnf
 refine hKq _ _ _ (.refl _) ?_
 clear hKq Kq
 conv=>whnf
 refine ⟨fun hlt=>?_,fun hlt=>?_⟩
 ·have hlt:=of_decide_eq_true hlt
  conv=>whnf
  refine hKq _ _ _ (.refl _) ?_
  clear hKq Kq
  conv=>whnf
  (refine hp.kmade _ _ (fun b=>.slice (some ⟨b,0,none⟩) 1 1) (mks88_1_0 _ _) fun q w hp hx=>?_; conv=>whnf)
  refine hp.kappO sl88 1 rfl (Blk.src TTok (hp.get (i:=0) rfl) rfl rfl (oneC_of rfl)) (by omega) (by unfold maxLen; omega) fun v' w hp=>?_
  simp only [List.set_cons_zero,List.set_cons_succ] at hp
  rw [rep_snoc] at hp
  conv=>whnf
  exact ⟨mm - 1,_,by omega,⟨k+1,v',by unfold padN; omega,rfl,hp.tail⟩,sub_cons rfl (sub_cons rfl sub_nil)⟩
 ·have hlt:=of_decide_eq_false hlt
  conv=>whnf
  clear hKq Kq
  refine hKq _ _ _ (.refl _) ?_
  clear hKq Kq
  conv=>whnf
  refine VSeq.mk fun Kq hKq=>?_
  conv=>whnf
  have hk:k=padN s.size:=by unfold padN; omega
  subst hk
  refine ⟨_,_,OB.str (hp.get (i:=0) rfl) TTok rfl rfl rfl,?_⟩
  conv=>whnf
  refine hKq _ _ _ (.refl _) ?_
  clear hKq Kq
  conv=>whnf
  exact ⟨rfl,hp.ext⟩
theorem kindN_lt {a b c d e:Nat} (ha:a < 16384) (hb:b < 16384) (hc:c < 16384) (hd:d < 16384) (he:e < 16384):(a ||| b ||| c ||| d ||| e) < 16384 :=
 Nat.or_lt_two_pow (n:=14) (Nat.or_lt_two_pow (Nat.or_lt_two_pow (Nat.or_lt_two_pow ha hb) hc) hd) he
def kindN (c m:Nat):Nat:=(m &&& 3968) * 4 ||| (c &&& 2) * 128 ||| (m &&& 112) * 2 ||| (c &&& 1) * 16 ||| (m &&& 15)
theorem kindN_bd (c m:Nat):kindN c m < 16384:=by
 have h1:m &&& 3968≤3968:=Nat.and_le_right
 have h2:c &&& 2≤2:=Nat.and_le_right
 have h3:m &&& 112≤112:=Nat.and_le_right
 have h4:c &&& 1≤1:=Nat.and_le_right
 have h5:m &&& 15≤15:=Nat.and_le_right
 exact kindN_lt (by omega) (by omega) (by omega) (by omega) (by omega)
theorem kind_p (c m:Nat) (hc:c < 4) (hm:m < 4096):PureF Tryz.prog 115 #[.int .i64 c,.int .i64 m] (.int .i64 (kindN c m)):=by
 have h1:m &&& 3968≤3968:=Nat.and_le_right
 have h2:c &&& 2≤2:=Nat.and_le_right
 have h3:m &&& 112≤112:=Nat.and_le_right
 have h4:c &&& 1≤1:=Nat.and_le_right
 have h5:m &&& 15≤15:=Nat.and_le_right
 have o1:((m &&& 3968) * 4 ||| (c &&& 2) * 128) < 16384:=Nat.or_lt_two_pow (n:=14) (by omega) (by omega)
 have o2:((m &&& 3968) * 4 ||| (c &&& 2) * 128 ||| (m &&& 112) * 2) < 16384:=Nat.or_lt_two_pow (n:=14) o1 (by omega)
 have o3:((m &&& 3968) * 4 ||| (c &&& 2) * 128 ||| (m &&& 112) * 2 ||| (c &&& 1) * 16) < 16384:=Nat.or_lt_two_pow (n:=14) o2 (by omega)
 unfold kindN
 generalize hA:m &&& 3968=A at *
 generalize hB:c &&& 2=B at *
 generalize hC:m &&& 112=C at *
 generalize hD:c &&& 1=D at *
 generalize hE:m &&& 15=E at *
 first | refine v_pure TTok FFok Tryz.func115 rfl rfl fun w0=>?_ | refine v_pure (args:=[]) TTok FFok Tryz.func115 rfl rfl fun w0=>?_
 conv=>whnf
 refine VSeq.mk fun Kq hKq=>?_
 conv=>whnf
 refine hKq _ _ _ (.refl _) ?_
 clear hKq Kq
 conv=>whnf
 refine VSeq.mk fun Kq hKq=>?_
 conv=>whnf
 have hp:=Hp.nil w0
 refine ⟨m,3968,A,⟨by first | rfl | omega,by first | rfl | omega,by omega,by omega⟩,by (dsimp only; exact hA),?_⟩
 conv=>whnf
 refine ⟨2,⟨by first | rfl | omega,by omega⟩,?_⟩
 conv=>whnf
 refine Or.inl (And.intro (by omega) ?_)
 conv=>whnf
 refine ⟨c,2,B,⟨by first | rfl | omega,by first | rfl | omega,by omega,by omega⟩,by (dsimp only; exact hB),?_⟩
 conv=>whnf
 refine ⟨7,⟨by first | rfl | omega,by omega⟩,?_⟩
 conv=>whnf
 refine Or.inl (And.intro (by omega) ?_)
 conv=>whnf
 refine ⟨A * 4,B * 128,_,⟨by first | rfl | omega,by first | rfl | omega,by omega,by omega⟩,rfl,?_⟩
 conv=>whnf
 refine ⟨m,112,C,⟨by first | rfl | omega,by first | rfl | omega,by omega,by omega⟩,by (dsimp only; exact hC),?_⟩
 conv=>whnf
 refine ⟨1,⟨by first | rfl | omega,by omega⟩,?_⟩
 conv=>whnf
 refine Or.inl (And.intro (by omega) ?_)
 conv=>whnf
 refine ⟨A * 4 ||| B * 128,C * 2,_,⟨by first | rfl | omega,by first | rfl | omega,by omega,by omega⟩,rfl,?_⟩
 conv=>whnf
 refine ⟨c,1,D,⟨by first | rfl | omega,by first | rfl | omega,by omega,by omega⟩,by (dsimp only; exact hD),?_⟩
 conv=>whnf
 refine ⟨4,⟨by first | rfl | omega,by omega⟩,?_⟩
 conv=>whnf
 refine Or.inl (And.intro (by omega) ?_)
 conv=>whnf
 refine ⟨A * 4 ||| B * 128 ||| C * 2,D * 16,_,⟨by first | rfl | omega,by first | rfl | omega,by omega,by omega⟩,rfl,?_⟩
 conv=>whnf
 refine ⟨m,15,E,⟨by first | rfl | omega,by first | rfl | omega,by omega,by omega⟩,by (dsimp only; exact hE),?_⟩
 conv=>whnf
 refine ⟨A * 4 ||| B * 128 ||| C * 2 ||| D * 16,E,_,⟨by first | rfl | omega,by first | rfl | omega,by omega,by omega⟩,rfl,?_⟩
 conv=>whnf
 refine hKq _ _ _ (.refl _) ?_
 clear hKq Kq
 conv=>whnf
 exact ⟨rfl,hp.ext⟩
def xorL (s b:List UInt8):List UInt8:=List.zipWith (fun x y=>x ^^^ y) s b
def xorB (s b:ByteArray):ByteArray:=⟨(xorL s.data.toList b.data.toList).toArray⟩
theorem xorL_len (s b:List UInt8) (h:s.length≤b.length):(xorL s b).length=s.length:=by unfold xorL; rw [List.length_zipWith]; omega
theorem xorB_size (s b:ByteArray) (h:s.size≤b.size):(xorB s b).size=s.size:=by
 unfold xorB
 rw [bA_size,xorL_len _ _ (by rw [toList_len,toList_len]; exact h),toList_len]
theorem xorL_get (s b:List UInt8) (h:s.length≤b.length) (i:Nat) (hi:i < s.length):(xorL s b).getD i 0=s.getD i 0 ^^^ b.getD i 0:=by
 unfold xorL
 rw [List.getD_eq_getElem?_getD,List.getElem?_zipWith,List.getD_eq_getElem?_getD,List.getD_eq_getElem?_getD,List.getElem?_eq_getElem hi,List.getElem?_eq_getElem (by omega)]
 rfl
theorem xj_set (s b:List UInt8) (zs:List Value) (h:s.length≤b.length) (i:Nat) (hi:i < s.length):(bytesV ((xorL s b).take i++s.drop i)++zs).set i (.int .u8 (((s.getD i 0 ^^^ b.getD i 0).toNat:Nat):Int))=bytesV ((xorL s b).take (i+1)++s.drop (i+1))++zs:=by
 have hl:=xorL_len s b h
 have e2:(xorL s b).take (i+1)=(xorL s b).take i++[s.getD i 0 ^^^ b.getD i 0]:=by
  rw [← xorL_get s b h i hi,List.take_add_one,List.getD_eq_getElem?_getD,List.getElem?_eq_getElem (by omega)]; rfl
 rw [bytesV_set _ _ _ _ (by rw [List.length_append,List.length_take,List.length_drop]; omega),e2,List.drop_eq_getElem_cons hi,List.set_append_right _ _ (by rw [List.length_take]; omega),List.length_take,Nat.min_eq_left (by omega),Nat.sub_self,List.set_cons_zero,List.append_assoc]
 rfl
theorem xj_get (s b:List UInt8) (zs:List Value) (h:s.length≤b.length) (i:Nat) (hi:i < s.length):(bytesV ((xorL s b).take i++s.drop i)++zs)[i]? = some (.int .u8 (((s.getD i 0).toNat:Nat):Int)):=by
 have hl:=xorL_len s b h
 rw [List.getElem?_append_left (by rw [bytesV_len,List.length_append,List.length_take,List.length_drop]; omega)]
 have:((xorL s b).take i++s.drop i)[i]? = some (s.getD i 0):=by
  rw [List.getElem?_append_right (by rw [List.length_take]; omega),List.length_take,Nat.min_eq_left (by omega),Nat.sub_self,List.getElem?_drop,Nat.add_zero,List.getD_eq_getElem?_getD,List.getElem?_eq_getElem hi]; rfl
 exact bytesV_get this
theorem changed_p (s b:ByteArray) (h:s.size≤b.size) (hs:s.size≤100000):PureF Tryz.prog 84 #[.string s,.string b] (.string (xorB s b)):=by
 have hsl:=toList_len s
 have hbl:=toList_len b
 have hh:s.data.toList.length≤b.data.toList.length:=by omega
 have hxl:=xorL_len _ _ hh
 have hB:∀ i,byt b i=(b.data.toList.getD i 0).toNat:=fun i=>rfl
 unfold xorB
 obtain ⟨S,hS⟩:∃ S,s.data.toList=S:=⟨_,rfl⟩
 obtain ⟨B,hBd⟩:∃ B,b.data.toList=B:=⟨_,rfl⟩
 rw [hBd] at hh hbl hB
 first | refine v_pure TTok FFok Tryz.func84 rfl rfl fun w0=>?_ | refine v_pure (args:=[]) TTok FFok Tryz.func84 rfl rfl fun w0=>?_
 conv=>whnf
 refine VSeq.mk fun Kq hKq=>?_
 conv=>whnf
 refine hKq _ _ _ (.refl _) ?_
 clear hKq Kq
 conv=>whnf
 refine VSeq.mk fun Kq hKq=>?_
 conv=>whnf
 have hp:=Hp.nil w0
 refine hp.kbytes TTok rfl rfl rfl fun q zs c w hp hx=>?_
 have hp:HpM [] w0 w [blk q (bytesV s.data.toList++zs) 5]:=hp
 rw [hS] at hsl hh hxl hp ⊢
 rw [hBd] at hxl ⊢
 conv=>whnf
 refine hKq _ _ _ (.refl _) ?_
 clear hKq Kq
 conv=>whnf
 refine VSeq.mk fun Kq hKq=>?_
 conv=>whnf
 refine VSeq.mk fun Kq hKq=>?_
 conv=>whnf
 refine hKq _ _ _ (.refl _) ?_
 clear hKq Kq
 conv=>whnf
 refine ⟨fun mm e w'=>∃ (i:Nat),mm+i=s.size∧e=[(1,.v (.string b)),(5,.v (.slice (some ⟨q,0,none⟩) s.size c)),(10,.v (.int .i64 s.size)),(11,.v (.int .i64 i))]∧HpM [] w0 w' [blk q (bytesV ((xorL S B).take i++S.drop i)++zs) 5],
  ⟨s.size,_,⟨0,by omega,rfl,hp⟩,sub_cons rfl (sub_cons rfl (sub_cons rfl (sub_cons rfl sub_nil)))⟩,?_⟩
 clear hp hx
 repeat clear hp
 rintro mm _ w ⟨i,hmm,rfl,hp⟩
 conv=>whnf
 refine VSeq.mk fun Kq hKq=>?_
 conv=>whnf
 refine hKq _ _ _ (.refl _) ?_
 clear hKq Kq
 conv=>whnf
 refine VSeq.mk fun Kq hKq=>?_
 conv=>whnf
 refine ⟨fun hlt=>?_,fun hlt=>?_⟩
 ·have hlt:=of_decide_eq_true hlt
  conv=>whnf
  refine hKq _ _ _ (.refl _) ?_
  clear hKq Kq
  conv=>whnf
  refine VSeq.mk fun Kq hKq=>?_
  conv=>whnf
  refine VSeq.mk fun Kq hKq=>?_
  conv=>whnf
  refine hKq _ _ _ (.refl _) ?_
  clear hKq Kq
  conv=>whnf
  have hi:i < S.length:=by omega
  have u1:=(S.getD i 0).toNat_lt
  have u2:=(B.getD i 0).toNat_lt
  refine v_mix TTok FFok mixed 9 [(0,false),(1,false),(2,false),(3,false),(4,false),(5,false),(6,false),(7,false),(8,false)] (by kernel_rfl) ?_
  conv=>whnf
  refine ⟨i,⟨by first | rfl | omega,by omega⟩,?_⟩
  conv=>whnf
  refine ⟨_,fun w' hx'=>Blk.ld (Blk.ext (hp.get (i:=0) rfl) hx') TTok rfl (xj_get S B zs hh i hi),?_⟩
  conv=>whnf
  refine ⟨i,⟨by first | rfl | omega,by omega⟩,?_⟩
  conv=>whnf
  rw [hB]
  refine ⟨(S.getD i 0).toNat,(B.getD i 0).toNat,(S.getD i 0 ^^^ B.getD i 0).toNat,⟨by first | rfl | omega,by first | rfl | omega,by omega,by omega⟩,by (dsimp only; exact (UInt8.toNat_xor _ _).symm),?_⟩
  conv=>whnf
  refine ⟨i,⟨by first | rfl | omega,by omega⟩,?_⟩
  conv=>whnf
  intro w hx
  try (have hp:=hp.call hx)
  conv=>whnf
  refine hp.kst1 (off:=i) TTok (by rfl) 0 (by rfl) (by rfl) (by rfl) (by rw [List.length_append,bytesV_len,List.length_append,List.length_take,List.length_drop]; omega) fun w hp=>?_
  try simp only [List.set_cons_zero,List.set_cons_succ,EV.val] at hp
  conv=>whnf
  refine hKq _ _ _ (.refl _) ?_
  clear hKq Kq
  conv=>whnf
  refine Or.inl (And.intro (by omega) ?_)
  conv=>whnf
  rw [xj_set S B zs hh i hi] at hp
  exact ⟨mm - 1,_,by omega,⟨i+1,by omega,rfl,hp⟩,sub_cons rfl (sub_cons rfl (sub_cons rfl (sub_cons rfl sub_nil)))⟩
 ·have hlt:=of_decide_eq_false hlt
  conv=>whnf
  clear hKq Kq
  refine hKq _ _ _ (.refl _) ?_
  clear hKq Kq
  conv=>whnf
  refine VSeq.mk fun Kq hKq=>?_
  conv=>whnf
  obtain rfl:i=s.size:=by omega
  rw [← hsl,List.drop_of_length_le (Nat.le_refl _),List.append_nil,← hxl,List.take_of_length_le (Nat.le_refl _)] at hp
  refine ⟨_,_,Blk.str' (l:=xorL S B) (hp.get (i:=0) rfl) TTok rfl rfl rfl rfl (by omega),?_⟩
  conv=>whnf
  refine hKq _ _ _ (.refl _) ?_
  clear hKq Kq
  conv=>whnf
  rw [hS,hBd]
  exact ⟨rfl,hp.ext⟩
def magicB:ByteArray:=beB 4 554869826
def maskB (id:ByteArray):ByteArray:=magicB++id
theorem maskB_size (id:ByteArray) (h:id.size=12):(maskB id).size=16:=by
 unfold maskB magicB
 rw [ByteArray.size_append,beB_size,h]
theorem mask_p (id:ByteArray) (h:id.size≤100):PureF Tryz.prog 85 #[.string id] (.string (maskB id)):=by
 have hz:=beB_size 4 554869826
 unfold maskB magicB
 first | refine v_pure TTok FFok Tryz.func85 rfl rfl fun w0=>?_ | refine v_pure (args:=[]) TTok FFok Tryz.func85 rfl rfl fun w0=>?_
 conv=>whnf
 refine VSeq.mk fun Kq hKq=>?_
 conv=>whnf
 refine hKq _ _ _ (.refl _) ?_
 clear hKq Kq
 conv=>whnf
 refine VSeq.mk fun Kq hKq=>?_
 conv=>whnf
 have hp:=Hp.nil w0
 (refine V.CallW.out ?_; (conv=>arg 3; dsimp only [EV.val,List.toList_toArray,List.nil_append,List.append_nil,List.cons_append]); refine V.PureF.useW (Put_ok 4 554869826 (by decide) (by decide) (by decide)) fun w hx=>?_; try (have hp:=hp.call hx); conv=>whnf)
 (refine hKq _ _ _ (.refl _) ?_; clear hKq Kq; conv=>whnf)
 (refine VSeq.mk fun Kq hKq=>?_; conv=>whnf)
 (refine And.intro (by first | omega | decide) ?_; conv=>whnf)
 (refine hKq _ _ _ (.refl _) ?_; clear hKq Kq; conv=>whnf)
 (exact ⟨rfl,hp.ext⟩)
def famN (h:ByteArray):Nat:=if h.size=4 then 1 else 2
def mixB (id host:ByteArray) (port:Nat):ByteArray:=⟨#[0,UInt8.ofNat (famN host)]⟩++xorB (beB 2 port) (maskB id)++xorB host (maskB id)
theorem family_p (s:ByteArray) (h:hostB s=true):PureF Tryz.prog 82 #[.string s] (.tuple #[.int .i64 (famN s),.int .i64 0]):=by
 rcases hostB_t h with h | h
 ·have:famN s=1:=by unfold famN; rw [if_pos h]
  rw [this]; exact family_4 s h
 ·have:famN s=2:=by unfold famN; rw [if_neg (by omega)]
  rw [this]; exact family_6 s h
theorem Mixed_ok (id host:ByteArray) (port:Nat) (hi:id.size=12) (hh:hostB host=true) (hpt:port≤65535):PureF Tryz.prog 30 #[.string id,.agg #[.string host,.int .i64 port]] (.tuple #[.string (mixB id host port),.int .i64 0]):=by
 have hA:=addrB_of hh (Int.natCast_nonneg port) (show ((port:Nat):Int)≤65535 by omega)
 have hz:=maskB_size id hi
 have h2:=hostB_t hh
 have hf:=family_p host hh
 have hpo:=Put_ok 2 port (by decide) (by decide) (by omega)
 have hm:=mask_p id (by omega)
 have hc1:=changed_p (beB 2 port) (maskB id) (by rw [beB_size]; omega) (by rw [beB_size]; omega)
 have hc2:=changed_p host (maskB id) (by omega) (by omega)
 have z1:=xorB_size (beB 2 port) (maskB id) (by rw [beB_size]; omega)
 have z2:=xorB_size host (maskB id) (by omega)
 rw [beB_size] at z1
 have hfn:famN host < 256:=by unfold famN; split <;> omega
 have hfe:((famN host:Nat):Int) % 256=(((UInt8.ofNat (famN host)).toNat:Nat):Int):=by rw [UInt8.toNat_ofNat_of_lt' (by simpa using hfn)]; omega
 unfold mixB
 first | refine v_pure TTok FFok Tryz.func30 rfl rfl fun w0=>?_ | refine v_pure (args:=[]) TTok FFok Tryz.func30 rfl rfl fun w0=>?_
 conv=>whnf
 refine VSeq.mk fun Kq hKq=>?_
 conv=>whnf
 have hp:=Hp.nil w0
 (refine hp.kboxA fun q w hp hx=>?_; conv=>whnf)
 (refine hKq _ _ _ (.refl _) ?_; clear hKq Kq; conv=>whnf)
 (refine VSeq.mk fun Kq hKq=>?_; conv=>whnf)
 (refine ⟨_,_,Blk.ld (hp.get (i:=0) rfl) TTok rfl rfl,?_⟩; conv=>whnf)
 (refine V.CallW.out ?_; (conv=>arg 3; dsimp only [EV.val,List.toList_toArray,List.nil_append,List.append_nil,List.cons_append]); (with_reducible refine V.PureF.useW (hf) fun w hx=>?_); try (have hp:=hp.call hx); conv=>whnf)
 (refine hKq _ _ _ (.refl _) ?_; clear hKq Kq; conv=>whnf)
 (refine VSeq.mk fun Kq hKq=>?_; conv=>whnf)
 (refine VSeq.mk fun Kq hKq=>?_; conv=>whnf)
 (refine VSeq.mk fun Kq hKq=>?_; conv=>whnf)
 (refine hKq _ _ _ (.refl _) ?_; clear hKq Kq; conv=>whnf)
 (refine VSeq.mk fun Kq hKq=>?_; conv=>whnf)
 (refine And.intro (fun h=>absurd (of_decide_eq_true h) (by first | (intro h2; exact absurd rfl h2) | omega | decide)) (fun _=>?_); conv=>whnf)
 (refine ⟨_,_,Blk.ldV (vs:=[_,_]) (hp.get (i:=0) rfl) TTok rfl rfl rfl,?_⟩; conv=>whnf)
 (refine V.CallW.out ?_; (conv=>arg 3; dsimp only [EV.val,List.toList_toArray,List.nil_append,List.append_nil,List.cons_append]); (with_reducible refine V.PureF.useW (acheck_t _ _ (by assumption)) fun w hx=>?_); try (have hp:=hp.call hx); conv=>whnf)
 (refine hKq _ _ _ (.refl _) ?_; clear hKq Kq; conv=>whnf)
 (refine And.intro (fun h=>absurd (of_decide_eq_true h) (by first | (intro h2; exact absurd rfl h2) | omega | decide)) (fun _=>?_); conv=>whnf)
 (refine hKq _ _ _ (.refl _) ?_; clear hKq Kq; conv=>whnf)
 (refine And.intro (fun h=>absurd (of_decide_eq_true h) (by first | (intro h2; exact absurd rfl h2) | omega | decide)) (fun _=>?_); conv=>whnf)
 (refine hKq _ _ _ (.refl _) ?_; clear hKq Kq; conv=>whnf)
 (refine VSeq.mk fun Kq hKq=>?_; conv=>whnf)
 (refine ⟨_,_,Blk.ld (hp.get (i:=0) rfl) TTok rfl rfl,?_⟩; conv=>whnf)
 (refine V.CallW.out ?_; (conv=>arg 3; dsimp only [EV.val,List.toList_toArray,List.nil_append,List.append_nil,List.cons_append]); refine V.PureF.useW (hpo) fun w hx=>?_; try (have hp:=hp.call hx); conv=>whnf)
 (refine hKq _ _ _ (.refl _) ?_; clear hKq Kq; conv=>whnf)
 (refine VSeq.mk fun Kq hKq=>?_; conv=>whnf)
 refine v_mixA TTok FFok mixed [(0,false),(1,false),(4,false),(5,false),(6,false),(7,false),(9,false),(10,false),(11,false),(12,false),(13,false),(2,true),(3,false),(8,false),(14,false),(15,false),(16,false)] (by kernel_rfl) ?_
 conv=>whnf
 first | refine PureF.quiet (hm) ?_ | refine PureF.quietE (hm) ?_
 conv=>whnf
 first | refine PureF.quiet (hc1) ?_ | refine PureF.quietE (hc1) ?_
 conv=>whnf
 refine ⟨_,fun w' hx'=>Blk.ld (Blk.ext (hp.get (i:=0) rfl) hx') TTok rfl (rfl),?_⟩
 conv=>whnf
 first | refine PureF.quiet (hm) ?_ | refine PureF.quietE (hm) ?_
 conv=>whnf
 first | refine PureF.quiet (hc2) ?_ | refine PureF.quietE (hc2) ?_
 conv=>whnf
 intro w hx
 try (have hp:=hp.call hx)
 conv=>whnf
 rw [hfe]
 refine hp.kmade (bytesV [0,UInt8.ofNat (famN host)]) 5 (fun b=>.slice (some ⟨b,0,none⟩) 2 2) (by kernel_rfl) fun qb w hp hx=>?_
 conv=>whnf
 refine And.intro hx ?_
 conv=>whnf
 refine ⟨_,fun w1 hx'=>Blk.str (l:=[0,UInt8.ofNat (famN host)]) (Blk.ext (hp.get (i:=0) rfl) hx') TTok rfl rfl rfl rfl rfl,?_⟩
 conv=>whnf
 refine And.intro (by show 2+_≤_; omega) ?_
 conv=>whnf
 refine And.intro (by rw [ByteArray.size_append]; show 2+_+_≤_; omega) ?_
 conv=>whnf
 intro w hx
 try (have hp:=hp.call hx)
 conv=>whnf
 refine hKq _ _ _ (.refl _) ?_
 clear hKq Kq
 conv=>whnf
 exact ⟨rfl,hp.ext⟩
def reasonB (n:Nat) (r:ByteArray):ByteArray:=⟨#[0,0,UInt8.ofNat (n / 100),UInt8.ofNat (n % 100)]⟩++r
theorem Reason_ok (n:Nat) (r:ByteArray) (h1:300≤n) (h2:n≤699) (hr:r.size≤128):PureF Tryz.prog 35 #[.int .i64 n,.string r] (.tuple #[.string (reasonB n r),.int .i64 0]):=by
 have e1:((n:Nat):Int) / 100 % 256=(((UInt8.ofNat (n / 100)).toNat:Nat):Int):=by rw [UInt8.toNat_ofNat_of_lt' (show n / 100 < UInt8.size by show n / 100 < 256; omega)]; omega
 have e2:((n:Nat):Int) % 100 % 256=(((UInt8.ofNat (n % 100)).toNat:Nat):Int):=by rw [UInt8.toNat_ofNat_of_lt' (show n % 100 < UInt8.size by show n % 100 < 256; omega)]; omega
 unfold reasonB
 first | refine v_pure TTok FFok Tryz.func35 rfl rfl fun w0=>?_ | refine v_pure (args:=[]) TTok FFok Tryz.func35 rfl rfl fun w0=>?_
 conv=>whnf
 refine VSeq.mk fun Kq hKq=>?_
 conv=>whnf
 refine hKq _ _ _ (.refl _) ?_
 clear hKq Kq
 conv=>whnf
 refine VSeq.mk fun Kq hKq=>?_
 conv=>whnf
 refine VSeq.mk fun Kq hKq=>?_
 conv=>whnf
 refine VSeq.mk fun Kq hKq=>?_
 conv=>whnf
 refine hKq _ _ _ (.refl _) ?_
 clear hKq Kq
 conv=>whnf
 have hp:=Hp.nil w0
 (refine And.intro (fun h=>absurd (of_decide_eq_true h) (by first | (intro h2; exact absurd rfl h2) | omega | decide)) (fun _=>?_); conv=>whnf)
 (refine hKq _ _ _ (.refl _) ?_; clear hKq Kq; conv=>whnf)
 (refine And.intro (fun h=>absurd (of_decide_eq_true h) (by first | (intro h2; exact absurd rfl h2) | omega | decide)) (fun _=>?_); conv=>whnf)
 (refine VSeq.mk fun Kq hKq=>?_; conv=>whnf)
 (refine hKq _ _ _ (.refl _) ?_; clear hKq Kq; conv=>whnf)
 (refine And.intro (fun h=>absurd (of_decide_eq_true h) (by first | (intro h2; exact absurd rfl h2) | omega | decide)) (fun _=>?_); conv=>whnf)
 (refine hKq _ _ _ (.refl _) ?_; clear hKq Kq; conv=>whnf)
 (refine VSeq.mk fun Kq hKq=>?_; conv=>whnf)
 (refine And.intro (by first | omega | decide) ?_; conv=>whnf)
 (refine And.intro (by first | omega | decide) ?_; conv=>whnf)
 rw [e1,e2]
 refine hp.kmade (bytesV [0,0,UInt8.ofNat (n / 100),UInt8.ofNat (n % 100)]) 5 (fun b=>.slice (some ⟨b,0,none⟩) 4 4) (by kernel_rfl) fun qb w hp hx=>?_
 conv=>whnf
 refine ⟨_,_,Blk.str (l:=[0,0,UInt8.ofNat (n / 100),UInt8.ofNat (n % 100)]) (hp.get (i:=0) rfl) TTok rfl rfl rfl rfl rfl,?_⟩
 conv=>whnf
 refine And.intro (by show 4+_≤_; omega) ?_
 conv=>whnf
 refine hKq _ _ _ (.refl _) ?_
 clear hKq Kq
 conv=>whnf
 exact ⟨rfl,hp.ext⟩
theorem Reason_arg (n:Int) (r:ByteArray) (h:n < 300∨699 < n):PureF Tryz.prog 35 #[.int .i64 n,.string r] (.tuple #[.string ⟨#[]⟩,.int .i64 2]):=by
 first | refine v_pure TTok FFok Tryz.func35 rfl rfl fun w0=>?_ | refine v_pure (args:=[]) TTok FFok Tryz.func35 rfl rfl fun w0=>?_
 conv=>whnf
 refine VSeq.mk fun Kq hKq=>?_
 conv=>whnf
 refine hKq _ _ _ (.refl _) ?_
 clear hKq Kq
 conv=>whnf
 refine VSeq.mk fun Kq hKq=>?_
 conv=>whnf
 refine VSeq.mk fun Kq hKq=>?_
 conv=>whnf
 refine VSeq.mk fun Kq hKq=>?_
 conv=>whnf
 refine hKq _ _ _ (.refl _) ?_
 clear hKq Kq
 conv=>whnf
 have hp:=Hp.nil w0
 (refine ⟨fun hd=>?_,fun hd=>?_⟩ <;> (try simp only [Bool.not_eq_true',Bool.not_eq_false',decide_eq_true_eq,decide_eq_false_iff_not,ne_eq,Classical.not_not] at hd) <;> (conv=>whnf))
 (refine hKq _ _ _ (.refl _) ?_; clear hKq Kq; conv=>whnf)
 (refine VSeq.mk fun Kq hKq=>?_; conv=>whnf)
 (refine hKq _ _ _ (.refl _) ?_; clear hKq Kq; conv=>whnf)
 (exact ⟨rfl,hp.ext⟩)
 (refine hKq _ _ _ (.refl _) ?_; clear hKq Kq; conv=>whnf)
 (refine And.intro (fun _=>?_) (fun h=>absurd (by first | rfl | assumption | omega | decide) (of_decide_eq_false h)); conv=>whnf)
 (refine VSeq.mk fun Kq hKq=>?_; conv=>whnf)
 (refine hKq _ _ _ (.refl _) ?_; clear hKq Kq; conv=>whnf)
 (exact ⟨rfl,hp.ext⟩)
/-- a buffer in block q that holds octets -/
def BSt (M:List Nat) (w0 w:World) (q:Nat) (l:List UInt8) (H:List It):Prop :=
 ∃ v p:Value,(p = .pointer none∨p = .pointer (some ⟨q,0,none⟩))∧HpM M w0 w (row 5 1 v l.length (bytesV l) :: blk q [p,v] 181 :: H)
theorem noesc_x (x:Value):extP Tryz.prog 162 #[x] (Extern.AbiNoEscape.same #[x]):=fun w=>by
 rw [run_callFunc_extern (f:=162) (e:=Extern.AbiNoEscape.same) Tryz.func162 (by kernel_rfl) (by kernel_rfl) (by kernel_rfl) (by kernel_rfl),Sem.run_bind]
 rfl
theorem ptr_ne_same (q:Nat) (xo yo:Operand) (w:World):(do eqGuard .neq 170 xo yo (.pointer (some ⟨q,0,none⟩)) (.pointer (some ⟨q,0,none⟩)); binOp .neq 170 (.pointer (some ⟨q,0,none⟩)) (.pointer (some ⟨q,0,none⟩)):Sem Value).run Tryz.prog w = .ok (.bool false) w:=by
 obtain ⟨j,hj,_⟩:=(tab_entry (P:=Tryz.prog) TTok (t:=172) rfl).2
 have h:=Go.Lib.run_neq_ptr_same (P:=Tryz.prog) (w:=w) (tp:=170) (te:=172) ⟨q,0,none⟩ (by kernel_rfl) hj
 have hg:(eqGuard .neq 170 xo yo (.pointer (some ⟨q,0,none⟩)) (.pointer (some ⟨q,0,none⟩)):Sem Unit).run Tryz.prog w = .ok () w:=by kernel_rfl
 rw [Sem.run_bind,hg]
 exact h
theorem copyCheck_c {M:List Nat} {w0 w:World} {q:Nat} {v p:Value} {X:It} {H:List It} (hpp:p = .pointer none∨p = .pointer (some ⟨q,0,none⟩)) (hp:HpM M w0 w (X :: blk q [p,v] 181 :: H)) :
  Calls Tryz.prog 137 #[.pointer (some ⟨q,0,none⟩)] w fun e w'=>∃ u,e = .returned u∧HpM M w0 w' (X :: blk q [.pointer (some ⟨q,0,none⟩),v] 181 :: H):=by
 have hB:Blk w q [p,v] 181:=hp.get (i:=1) rfl
 obtain ⟨f,_,hheap⟩:=hB
 have hsh:w.shape? q=some (181,2):=by simp [World.shape?,hheap]
 obtain ⟨j,hj,hjs⟩:=(tab_entry (P:=Tryz.prog) TTok (t:=172) rfl).2
 rcases hpp with rfl | rfl
 ·refine v_fn (args:=[.pointer (some ⟨q,0,none⟩)]) TTok FFok Tryz.func137 rfl (Nat.le_of_ble_eq_true rfl) ?_
  conv=>whnf
  refine VSeq.mk fun Kq hKq=>?_
  conv=>whnf
  (refine ⟨_,_,Blk.ld (hp.get (i:=1) rfl) TTok rfl rfl,?_⟩; conv=>whnf)
  first | refine ⟨.bool true,w,by kernel_rfl,?_⟩ | refine ⟨.bool true,w0,by kernel_rfl,?_⟩
  conv=>whnf
  refine hKq _ _ _ (.refl _) ?_
  clear hKq Kq
  conv=>whnf
  refine And.intro (fun _=>?_) (fun h=>by cases h)
  conv=>whnf
  refine ⟨.pointer (some ⟨q,0,none⟩),w,Go.Lib.run_to_unsafe w (t:=172) ⟨q,0,none⟩ (by kernel_rfl) (by kernel_rfl) hj (by rw [hjs]; decide) hsh (by show 0 < 2; decide),?_⟩
  conv=>whnf
  refine ⟨_,noesc_x _,_,w,Go.Lib.run_noEscape w _,?_⟩
  conv=>whnf
  refine ⟨.pointer (some ⟨q,0,none⟩),w,Go.Lib.run_from_unsafe w (u:=172) ⟨q,0,none⟩ (by kernel_rfl) (by kernel_rfl) hj hsh (by kernel_rfl),?_⟩
  conv=>whnf
  refine hp.kst1 TTok (by rfl) 1 (by rfl) (by rfl) (by rfl) (Nat.le_of_ble_eq_true rfl) fun w hp=>?_
  try simp only [List.set_cons_zero,List.set_cons_succ,EV.val] at hp
  conv=>whnf
  exact hp
 ·refine v_fn (args:=[.pointer (some ⟨q,0,none⟩)]) TTok FFok Tryz.func137 rfl (Nat.le_of_ble_eq_true rfl) ?_
  conv=>whnf
  refine VSeq.mk fun Kq hKq=>?_
  conv=>whnf
  (refine ⟨_,_,Blk.ld (hp.get (i:=1) rfl) TTok rfl rfl,?_⟩; conv=>whnf)
  first | refine ⟨.bool false,w,by kernel_rfl,?_⟩ | refine ⟨.bool false,w0,by kernel_rfl,?_⟩
  conv=>whnf
  refine hKq _ _ _ (.refl _) ?_
  clear hKq Kq
  conv=>whnf
  refine And.intro (fun h=>by cases h) (fun _=>?_)
  conv=>whnf
  refine VSeq.mk fun Kq hKq=>?_
  conv=>whnf
  (refine ⟨_,_,Blk.ld (hp.get (i:=1) rfl) TTok rfl rfl,?_⟩; conv=>whnf)
  refine ⟨.bool false,w,ptr_ne_same q _ _ w,?_⟩
  conv=>whnf
  refine hKq _ _ _ (.refl _) ?_
  clear hKq Kq
  conv=>whnf
  refine And.intro (fun h=>by cases h) (fun _=>?_)
  conv=>whnf
  exact hp
theorem WriteString_c {M:List Nat} {w0 w:World} {q:Nat} {l:List UInt8} {H:List It} (s:ByteArray) (hb:BSt M w0 w q l H) (hl:l.length+s.size≤1000000) :
  Calls Tryz.prog 106 #[.pointer (some ⟨q,0,none⟩),.string s] w fun e w'=>∃ u,e = .returned u∧BSt M w0 w' q (l++s.data.toList) H:=by
 have hsl:=toList_len s
 obtain ⟨v,p,hpp,hp⟩:=hb
 refine v_fn (args:=[.pointer (some ⟨q,0,none⟩),.string s]) TTok FFok Tryz.func106 rfl (Nat.le_of_ble_eq_true rfl) ?_
 conv=>whnf
 refine VSeq.mk fun Kq hKq=>?_
 conv=>whnf
 refine hKq _ _ _ (.refl _) ?_
 clear hKq Kq
 conv=>whnf
 refine VSeq.mk fun Kq hKq=>?_
 conv=>whnf
 refine Calls.mono (copyCheck_c hpp hp) ?_
 rintro _ w ⟨u,rfl,hp⟩
 refine ⟨_,rfl,?_⟩
 conv=>whnf
 refine hKq _ _ _ (.refl _) ?_
 clear hKq Kq
 conv=>whnf
 refine VSeq.mk fun Kq hKq=>?_
 conv=>whnf
 (refine ⟨_,_,Blk.ld (hp.get (i:=1) rfl) TTok rfl rfl,?_⟩; conv=>whnf)
 refine hp.kapp sl88 0 rfl (Src.ofString _ (tab_str TTok rfl) s) (by omega) (by unfold maxLen; omega) fun v' w hp=>?_
 simp only [List.set_cons_zero] at hp
 have hp:HpM M w0 w (row 5 1 v' (l++s.data.toList).length (bytesV (l++s.data.toList)) :: blk q [.pointer (some ⟨q,0,none⟩),v] 181 :: H):=by
  rw [List.length_append,hsl,bytesV_app]
  exact hp
 obtain ⟨pp,cc,rfl⟩:=row_shape (hp.get (i:=0) rfl)
 conv=>whnf
 (refine hp.kst1 TTok (by rfl) 1 (by rfl) (by rfl) (by rfl) (Nat.le_of_ble_eq_true rfl) fun w hp=>?_; try simp only [List.set_cons_zero,List.set_cons_succ,EV.val] at hp; conv=>whnf)
 (refine hKq _ _ _ (.refl _) ?_; clear hKq Kq; conv=>whnf)
 (refine VSeq.mk fun Kq hKq=>?_; conv=>whnf)
 (refine hKq _ _ _ (.refl _) ?_; clear hKq Kq; conv=>whnf)
 exact ⟨_,_,.inr rfl,hp⟩
theorem put_c {M:List Nat} {w0 w:World} {q:Nat} {l:List UInt8} {H:List It} (n v:Nat) (h1:1≤n) (h7:n≤7) (hv:v < 2 ^ (8 * n)) (hb:BSt M w0 w q l H) (hl:l.length≤900000) :
  Calls Tryz.prog 114 #[.pointer (some ⟨q,0,none⟩),.int .i64 n,.int .i64 v] w fun e w'=>∃ u,e = .returned u∧BSt M w0 w' q (l++beL n v) H:=by
 obtain ⟨vv,p,hpp,hp⟩:=hb
 refine v_fn (args:=[.pointer (some ⟨q,0,none⟩),.int .i64 n,.int .i64 v]) TTok FFok Tryz.func114 rfl (Nat.le_of_ble_eq_true rfl) ?_
 conv=>whnf
 refine VSeq.mk fun Kq hKq=>?_
 conv=>whnf
 refine PureF.use (Put_ok n v h1 h7 hv) fun w hx=>?_
 have hp:=hp.call hx
 conv=>whnf
 refine hKq _ _ _ (.refl _) ?_
 clear hKq Kq
 conv=>whnf
 refine Calls.mono (WriteString_c (beB n v) ⟨vv,p,hpp,hp⟩ (by rw [beB_size]; omega)) ?_
 rintro _ w ⟨u,rfl,hb⟩
 refine ⟨_,rfl,?_⟩
 conv=>whnf
 exact hb
theorem sdata_r (g n c:Nat) (hc:c≠0) (ts:Array TypeId) (ty:TypeId) (w:World):(Builtin.unsafeSliceData_ ts ty #[.slice (some ⟨g,0,none⟩) n c]).run Tryz.prog w = .ok (.pointer (some ⟨g,0,none⟩)) w:=by
 have:Builtin.unsafeSliceData_ ts ty #[.slice (some ⟨g,0,none⟩) n c]=(if c≠0 then (Pure.pure (.pointer (some ⟨g,0,none⟩)):Sem Value) else (do if (← viewAt g).isSome then Pure.pure (.pointer (some ⟨g,0,none⟩)) else Pure.pure (.pointer (some ⟨← newObj (.view ⟨g,0,none⟩ (← elemOf ty)),0,none⟩)))):=by
  unfold Builtin.unsafeSliceData_
  rfl
 rw [this,if_pos hc]
 rfl
theorem String_c {w0 w:World} {q:Nat} {l:List UInt8} {H:List It} (hb:BSt [] w0 w q l H) (h0:0 < l.length) (hl:l.length≤1000000) :
  Calls Tryz.prog 108 #[.pointer (some ⟨q,0,none⟩)] w fun e w'=>∃ u,e = .returned u∧u = .string ⟨l.toArray⟩∧Ext w0 w':=by
 obtain ⟨v,p,hpp,hp⟩:=hb
 have hc:∃ g c,v = .slice (some ⟨g,0,none⟩) l.length c∧c≠0:=by
  have hown:w.ownsRow 0 5 1 v l.length (bytesV l):=hp.get (i:=0) rfl
  obtain ⟨_,h2⟩:=hown
  rcases h2 with ⟨hv,hh⟩ | ⟨g,cap,cur,hv,_,hg,hle,_⟩
  ·exfalso; simp only [List.length_eq_zero_iff] at hh; subst hh; simp at h0
  ·exact ⟨g,cap,hv,by omega⟩
 obtain ⟨g',c',hv,hc0⟩:=hc
 obtain ⟨g,c,zs,rfl,hp⟩:=hp.toBlk0 0 rfl h0
 simp only [List.set_cons_zero] at hp
 have hc0:c≠0:=by injection hv with _ _ e; rw [e]; exact hc0
 have hl0:l≠[]:=fun h=>by rw [h] at h0; simp at h0
 refine v_fn (args:=[.pointer (some ⟨q,0,none⟩)]) TTok FFok Tryz.func108 rfl (Nat.le_of_ble_eq_true rfl) ?_
 conv=>whnf
 refine VSeq.mk fun Kq hKq=>?_
 conv=>whnf
 refine hKq _ _ _ (.refl _) ?_
 clear hKq Kq
 conv=>whnf
 refine VSeq.mk fun Kq hKq=>?_
 conv=>whnf
 refine v_mix TTok FFok mixed 10 [(0,false),(1,false),(2,false),(3,false),(4,false),(5,false),(6,false),(7,false),(8,false),(9,false)] (by kernel_rfl) ?_
 conv=>whnf
 refine ⟨_,fun w' hx'=>Blk.ld (Blk.ext (hp.get (i:=1) rfl) hx') TTok rfl (rfl),?_⟩
 conv=>whnf
 refine ⟨.pointer (some ⟨g,0,none⟩),fun w' _=>sdata_r g l.length c hc0 _ _ w',?_⟩
 conv=>whnf
 refine ⟨_,fun w' hx'=>Blk.ld (Blk.ext (hp.get (i:=1) rfl) hx') TTok rfl (rfl),?_⟩
 conv=>whnf
 intro w hx
 try (have hp:=hp.call hx)
 conv=>whnf
 have hB:Blk w g (bytesV l++zs) 5:=hp.get (i:=0) rfl
 have hu:=Go.Lib.run_unsafeString_row (P:=Tryz.prog) (w:=w) 211 3 9 5 (by kernel_rfl) (by kernel_rfl) g (l.length+zs.length) (by obtain ⟨f,hf,hh⟩:=hB; simp [World.shape?,hh,bytesV_len]) l hl0 (by omega) (by omega) (fun j x hj=>by rw [add_none,Nat.zero_add,hB.cell,List.getElem?_append_left (by rw [bytesV_len]; exact (List.getElem?_eq_some_iff.1 hj).1)]; exact bytesV_get hj)
 refine ⟨_,_,hu,?_⟩
 conv=>whnf
 refine hKq _ _ _ (.refl _) ?_
 clear hKq Kq
 conv=>whnf
 refine ⟨rfl,Ext_freeze hp.ext g _ ?_⟩
 have:=(hp.lo _ (List.mem_cons_self) g rfl).1
 rcases this with h | h
 ·cases h
 ·exact h
abbrev At2:Type:=Int × ByteArray
def atC (a:At2):List Value:=[.int .i64 a.1,.string a.2]
def SA (w:World) (v:Value) (al:List At2):Prop:=SLn w 2 v (al.map atC)
theorem SA.shape {w:World} {v:Value} {al:List At2} (h:SA w v al):∃ p c,v = .slice p al.length c:=by
 rcases h with ⟨rfl,h⟩ | ⟨a,c,rfl,h⟩ | ⟨g,off,c,rfl,_⟩
 ·have:al=[]:=List.map_eq_nil_iff.1 h
  subst this; exact ⟨_,_,rfl⟩
 ·have:al=[]:=List.map_eq_nil_iff.1 h
  subst this; exact ⟨_,_,rfl⟩
 ·exact ⟨_,_,by rw [List.length_map]⟩
theorem SA.len {w:World} {v:Value} {al:List At2} (h:SA w v al):al.length≤9223372036854775807:=by
 rcases h with ⟨_,h⟩ | ⟨a,c,_,h⟩ | ⟨g,off,c,_,h1,h2,_⟩
 ·have:al=[]:=List.map_eq_nil_iff.1 h
  subst this; exact Nat.zero_le _
 ·have:al=[]:=List.map_eq_nil_iff.1 h
  subst this; exact Nat.zero_le _
 ·rw [List.length_map] at h1
  unfold maxLen at h2
  omega
theorem SA.ext {w w':World} {v:Value} {al:List At2} (h:SA w v al) (hx:Ext w w'):SA w' v al:=by
 rcases h with h | h | ⟨g,off,c,hv,h1,h2,h3⟩
 ·exact .inl h
 ·exact .inr (.inl h)
 ·exact .inr (.inr ⟨g,off,c,hv,h1,h2,fun j x hj=>⟨(h3 j x hj).1,fun i y hy=>Ext.cell hx ((h3 j x hj).2 i y hy)⟩⟩)
theorem SA.at {w:World} {p:Option Addr} {n c:Nat} {al:List At2} (h:SA w (.slice p n c) al) {j:Nat} {a:At2} (hj:al[j]? = some a) :
  ∃ g off,p=some ⟨g,off,none⟩∧(Instr.loadAt 54 (.pointer (some ⟨g,addM off j 2,none⟩))).run Tryz.prog w = .ok (.agg #[.int .i64 a.1,.string a.2]) w:=by
 have hm:(al.map atC)[j]? = some (atC a):=by rw [List.getElem?_map,hj]; rfl
 rcases h with ⟨hv,h⟩ | ⟨_,_,hv,h⟩ | ⟨g,off,c,hv,_,_,h3⟩
 ·rw [h] at hm; simp at hm
 ·rw [h] at hm; simp at hm
 ·simp only [Value.slice.injEq] at hv
  refine ⟨g,off,hv.1,?_⟩
  exact run_ldN TTok rfl (vs:=atC a) rfl fun i y hy=>by
   have:=(h3 j _ hm).2 i y hy
   rw [addM_eq,Nat.add_assoc]
   exact this
def atN (a:At2):Nat:=4+(a.2.size+3) / 4 * 4
def sizeN:List At2→Nat
 | []=>0
 | a :: l=>atN a+sizeN l
theorem sizeN_app (l m:List At2):sizeN (l++m)=sizeN l+sizeN m:=by
 induction l with
 | nil=>simp [sizeN]
 | cons a l ih=>rw [List.cons_append,sizeN,sizeN,ih]; omega
theorem sizeN_take {l:List At2} {i:Nat} {a:At2} (h:l[i]? = some a):sizeN (l.take (i+1))=sizeN (l.take i)+atN a:=by
 rw [List.take_add_one,h,sizeN_app]; rfl
theorem sizeN_le:∀ l:List At2,(∀ a∈l,a.2.size≤10000)→sizeN l≤l.length * 10010
 | [],_=>Nat.zero_le _
 | a :: l,h=>by
  have h1:=h a List.mem_cons_self
  have h2:=sizeN_le l fun b hb=>h b (List.mem_cons_of_mem _ hb)
  rw [sizeN,List.length_cons]
  unfold atN
  omega
theorem size_c {W:World} {v:Value} {al:List At2} (hv:SA W v al) (hl:al.length≤1000) (hz:∀ a∈al,a.2.size≤10000) :
  Calls Tryz.prog 66 #[v] W fun e w'=>e = .returned (.int .i64 (sizeN al))∧Ext W w':=by
 obtain ⟨p,c,rfl⟩:=hv.shape
 refine v_reads (args:=[.slice p al.length c]) TTok FFok Tryz.func66 rfl rfl ?_
 conv=>whnf
 refine VSeq.mk fun Kq hKq=>?_
 conv=>whnf
 refine hKq _ _ _ (.refl _) ?_
 clear hKq Kq
 conv=>whnf
 refine VSeq.mk fun Kq hKq=>?_
 conv=>whnf
 refine hKq _ _ _ (.refl _) ?_
 clear hKq Kq
 conv=>whnf
 refine VSeq.mk fun Kq hKq=>?_
 conv=>whnf
 refine VSeq.mk fun Kq hKq=>?_
 conv=>whnf
 refine hKq _ _ _ (.refl _) ?_
 clear hKq Kq
 conv=>whnf
 refine ⟨fun mm e w'=>∃ (i:Nat),mm+i=al.length∧e=[(3,.v (.int .i64 (sizeN (al.take i)))),(6,.v (.slice p al.length c)),(7,.v (.int .i64 al.length)),(8,.v (.int .i64 i))]∧Ext W w',
  ⟨al.length,_,⟨0,by omega,rfl,Ext.refl _⟩,sub_cons rfl (sub_cons rfl (sub_cons rfl (sub_cons rfl sub_nil)))⟩,?_⟩
 rintro mm _ w ⟨i,hmm,rfl,hxw⟩
 have hsl:=sizeN_le (al.take i) fun a ha=>hz a (List.mem_of_mem_take ha)
 have htl:(al.take i).length≤1000:=by rw [List.length_take]; omega
 conv=>whnf
 refine VSeq.mk fun Kq hKq=>?_
 conv=>whnf
 refine hKq _ _ _ (.refl _) ?_
 clear hKq Kq
 conv=>whnf
 refine VSeq.mk fun Kq hKq=>?_
 conv=>whnf
 refine ⟨fun hlt=>?_,fun hlt=>?_⟩
 ·have hlt:=of_decide_eq_true hlt
  conv=>whnf
  refine hKq _ _ _ (.refl _) ?_
  clear hKq Kq
  conv=>whnf
  refine VSeq.mk fun Kq hKq=>?_
  conv=>whnf
  refine VSeq.mk fun Kq hKq=>?_
  conv=>whnf
  have hp:=HpM.nil0 [] w
  obtain ⟨a,ha⟩:∃ a,al[i]? = some a:=⟨al[i]'(by omega),List.getElem?_eq_getElem (by omega)⟩
  have haz:=hz a (List.mem_of_getElem? ha)
  have hst:=sizeN_take ha
  obtain ⟨g,off,rfl,hld⟩:=(hv.ext hxw).at ha
  unfold atN at hst
  refine ⟨i,⟨by first | rfl | omega,by show i < al.length; omega⟩,?_⟩
  conv=>whnf
  refine ⟨_,_,hld,?_⟩
  conv=>whnf
  (refine hp.kalloc z54 fun al54 w hp hx=>?_; conv=>whnf)
  (refine hp.kstA TTok rfl 0 rfl rfl (oneC_of rfl) (by rfl) fun w hp=>?_; try simp only [List.set_cons_zero,List.set_cons_succ,EV.val] at hp; conv=>whnf)
  (refine hKq _ _ _ (.refl _) ?_; clear hKq Kq; conv=>whnf)
  (refine ⟨_,_,Blk.ld (hp.get (i:=0) rfl) TTok rfl rfl,?_⟩; conv=>whnf)
  (refine Or.inl (And.intro (by first | omega | decide) ?_); conv=>whnf)
  (refine And.intro (by first | omega | decide) ?_; conv=>whnf)
  (refine Or.inl (And.intro (by first | omega | decide) ?_); conv=>whnf)
  (refine Or.inl (And.intro (by first | omega | decide) ?_); conv=>whnf)
  (refine Or.inl (And.intro (by first | omega | decide) ?_); conv=>whnf)
  (refine hKq _ _ _ (.refl _) ?_; clear hKq Kq; conv=>whnf)
  (refine Or.inl (And.intro (by first | omega | decide) ?_); conv=>whnf)
  exact ⟨mm - 1,_,by omega,⟨i+1,by omega,rfl,hxw.trans hp.ext⟩,sub_cons (by show some _=some _; congr 3; rw [hst]; omega) (sub_cons rfl (sub_cons rfl (sub_cons rfl sub_nil)))⟩
 ·have hlt:=of_decide_eq_false hlt
  conv=>whnf
  clear hKq Kq
  refine hKq _ _ _ (.refl _) ?_
  clear hKq Kq
  conv=>whnf
  refine VSeq.mk fun Kq hKq=>?_
  conv=>whnf
  refine hKq _ _ _ (.refl _) ?_
  clear hKq Kq
  conv=>whnf
  obtain rfl:i=al.length:=by omega
  rw [List.take_of_length_le (Nat.le_refl _)]
  exact ⟨rfl,hxw⟩
def attrB (a:At2):Bool:=decide (0≤a.1) && (decide (a.1≤65535) && decide (a.2.size≤763))
def stunB (c m:Int) (id:ByteArray) (al:List At2):Bool :=
 (decide (0≤c) && (decide (c≤3) && (decide (0≤m) && (decide (m≤4095) && (decide (id.size=12) && decide (al.length≤30)))))) && (al.all attrB && decide (20+sizeN al≤1200))
theorem attrB_t {a:At2} (h:attrB a=true):0≤a.1∧a.1≤65535∧a.2.size≤763:=by unfold attrB at h; simpa using h
theorem attrB_f {a:At2} (h:¬ (0≤a.1∧a.1≤65535∧a.2.size≤763)):attrB a=false:=by
 cases hb:attrB a with
 | false=>rfl
 | true=>exact absurd (attrB_t hb) h
theorem stunB_t {c m:Int} {id:ByteArray} {al:List At2} (h:stunB c m id al=true):0≤c∧c≤3∧0≤m∧m≤4095∧id.size=12∧al.length≤30∧(∀ a∈al,attrB a=true)∧20+sizeN al≤1200:=by
 unfold stunB at h
 simp only [Bool.and_eq_true,decide_eq_true_eq,List.all_eq_true] at h
 obtain ⟨⟨h1,h2,h3,h4,h5,h6⟩,h7,h8⟩:=h
 exact ⟨h1,h2,h3,h4,h5,h6,h7,h8⟩
theorem stunB_of {c m:Int} {id:ByteArray} {al:List At2} (h1:0≤c) (h2:c≤3) (h3:0≤m) (h4:m≤4095) (h5:id.size=12) (h6:al.length≤30) (h7:∀ a∈al,attrB a=true) (h8:20+sizeN al≤1200):stunB c m id al=true:=by
 unfold stunB
 simp only [Bool.and_eq_true,decide_eq_true_eq,List.all_eq_true]
 exact ⟨⟨h1,h2,h3,h4,h5,h6⟩,h7,h8⟩
theorem stunB_f {c m:Int} {id:ByteArray} {al:List At2} (h:¬ stunB c m id al=true):stunB c m id al=false:=by
 cases hb:stunB c m id al with
 | false=>rfl
 | true=>exact absurd hb h
def chkN (c m:Int) (id:ByteArray) (al:List At2):Nat:=if stunB c m id al=true then 0 else 80
theorem Check_c {W:World} {v:Value} {al:List At2} (c m:Int) (id:ByteArray) (hv:SA W v al) :
  Calls Tryz.prog 17 #[.agg #[.int .i64 c,.int .i64 m,.string id,v]] W fun e w'=>e = .returned (.int .i64 (chkN c m id al))∧Ext W w':=by
 obtain ⟨p,cp,rfl⟩:=hv.shape
 by_cases hg:0≤c∧c≤3∧0≤m∧m≤4095∧id.size=12∧al.length≤30
 ·obtain ⟨g1,g2,g3,g4,g5,g6⟩:=hg
  refine v_reads (args:=[.agg #[.int .i64 c,.int .i64 m,.string id,.slice p al.length cp]]) TTok FFok Tryz.func17 rfl rfl ?_
  conv=>whnf
  refine VSeq.mk fun Kq hKq=>?_
  conv=>whnf
  have hp:=Hp.nil W
  (refine hp.kboxA fun q w hp hx=>?_; conv=>whnf)
  (refine hKq _ _ _ (.refl _) ?_; clear hKq Kq; conv=>whnf)
  (refine VSeq.mk fun Kq hKq=>?_; conv=>whnf)
  (refine VSeq.mk fun Kq hKq=>?_; conv=>whnf)
  (refine VSeq.mk fun Kq hKq=>?_; conv=>whnf)
  (refine ⟨_,_,Blk.ld (hp.get (i:=0) rfl) TTok rfl rfl,?_⟩; conv=>whnf)
  (refine hKq _ _ _ (.refl _) ?_; clear hKq Kq; conv=>whnf)
  (refine VSeq.mk fun Kq hKq=>?_; conv=>whnf)
  (refine And.intro (fun h=>absurd (of_decide_eq_true h) (by first | (intro h2; exact absurd rfl h2) | omega | decide)) (fun _=>?_); conv=>whnf)
  (refine ⟨_,_,Blk.ld (hp.get (i:=0) rfl) TTok rfl rfl,?_⟩; conv=>whnf)
  (refine hKq _ _ _ (.refl _) ?_; clear hKq Kq; conv=>whnf)
  (refine VSeq.mk fun Kq hKq=>?_; conv=>whnf)
  (refine And.intro (fun h=>absurd (of_decide_eq_true h) (by first | (intro h2; exact absurd rfl h2) | omega | decide)) (fun _=>?_); conv=>whnf)
  (refine ⟨_,_,Blk.ld (hp.get (i:=0) rfl) TTok rfl rfl,?_⟩; conv=>whnf)
  (refine hKq _ _ _ (.refl _) ?_; clear hKq Kq; conv=>whnf)
  (refine VSeq.mk fun Kq hKq=>?_; conv=>whnf)
  (refine And.intro (fun h=>absurd (of_decide_eq_true h) (by first | (intro h2; exact absurd rfl h2) | omega | decide)) (fun _=>?_); conv=>whnf)
  (refine ⟨_,_,Blk.ld (hp.get (i:=0) rfl) TTok rfl rfl,?_⟩; conv=>whnf)
  (refine hKq _ _ _ (.refl _) ?_; clear hKq Kq; conv=>whnf)
  (refine VSeq.mk fun Kq hKq=>?_; conv=>whnf)
  (refine And.intro (fun h=>absurd (of_decide_eq_true h) (by first | (intro h2; exact absurd rfl h2) | omega | decide)) (fun _=>?_); conv=>whnf)
  (refine ⟨_,_,Blk.ld (hp.get (i:=0) rfl) TTok rfl rfl,?_⟩; conv=>whnf)
  (refine hKq _ _ _ (.refl _) ?_; clear hKq Kq; conv=>whnf)
  (refine And.intro (fun h=>absurd (of_decide_eq_true h) (by first | (intro h2; exact absurd rfl h2) | omega | decide)) (fun _=>?_); conv=>whnf)
  (refine ⟨_,_,Blk.ld (hp.get (i:=0) rfl) TTok rfl rfl,?_⟩; conv=>whnf)
  (refine hKq _ _ _ (.refl _) ?_; clear hKq Kq; conv=>whnf)
  (refine And.intro (fun h=>absurd (of_decide_eq_true h) (by first | (intro h2; exact absurd rfl h2) | omega | decide)) (fun _=>?_); conv=>whnf)
  (refine hKq _ _ _ (.refl _) ?_; clear hKq Kq; conv=>whnf)
  (refine VSeq.mk fun Kq hKq=>?_; conv=>whnf)
  (refine VSeq.mk fun Kq hKq=>?_; conv=>whnf)
  (refine ⟨_,_,Blk.ld (hp.get (i:=0) rfl) TTok rfl rfl,?_⟩; conv=>whnf)
  (refine hKq _ _ _ (.refl _) ?_; clear hKq Kq; conv=>whnf)
  refine ⟨fun mm e w'=>∃ (i:Nat),mm+i=al.length∧e=[(1,.v (.pointer (some ⟨q,0,none⟩))),(36,.v (.slice p al.length cp)),(37,.v (.int .i64 al.length)),(38,.v (.int .i64 i))]∧(∀ a∈al.take i,attrB a=true)∧HpM [] W w' [blk q [.int .i64 c,.int .i64 m,.string id,.slice p al.length cp] 24],
   ⟨al.length,_,⟨0,by omega,rfl,by simp,hp⟩,sub_cons rfl (sub_cons rfl (sub_cons rfl (sub_cons rfl sub_nil)))⟩,?_⟩
  clear hp hx
  repeat clear hp
  rintro mm _ w ⟨i,hmm,rfl,hall,hp⟩
  conv=>whnf
  refine VSeq.mk fun Kq hKq=>?_
  conv=>whnf
  refine hKq _ _ _ (.refl _) ?_
  clear hKq Kq
  conv=>whnf
  refine VSeq.mk fun Kq hKq=>?_
  conv=>whnf
  refine ⟨fun hlt=>?_,fun hlt=>?_⟩
  ·have hlt:=of_decide_eq_true hlt
   conv=>whnf
   refine hKq _ _ _ (.refl _) ?_
   clear hKq Kq
   conv=>whnf
   refine VSeq.mk fun Kq hKq=>?_
   conv=>whnf
   refine VSeq.mk fun Kq hKq=>?_
   conv=>whnf
   obtain ⟨a,ha⟩:∃ a,al[i]? = some a:=⟨al[i]'(by omega),List.getElem?_eq_getElem (by omega)⟩
   obtain ⟨g,off,rfl,hld⟩:=(hv.ext hp.ext).at ha
   refine ⟨i,⟨by first | rfl | omega,by show i < al.length; omega⟩,?_⟩
   conv=>whnf
   refine ⟨_,_,hld,?_⟩
   conv=>whnf
   by_cases hok:0≤a.1∧a.1≤65535∧a.2.size≤763
   ·obtain ⟨k1,k2,k3⟩:=hok
    have haB:attrB a=true:=by unfold attrB; simp only [Bool.and_eq_true,decide_eq_true_eq]; exact ⟨k1,k2,k3⟩
    (refine hp.kalloc z54 fun al54 w hp hx=>?_; conv=>whnf)
    (refine hp.kstA TTok rfl 0 rfl rfl (oneC_of rfl) (by rfl) fun w hp=>?_; try simp only [List.set_cons_zero,List.set_cons_succ,EV.val] at hp; conv=>whnf)
    (refine hKq _ _ _ (.refl _) ?_; clear hKq Kq; conv=>whnf)
    (refine VSeq.mk fun Kq hKq=>?_; conv=>whnf)
    (refine VSeq.mk fun Kq hKq=>?_; conv=>whnf)
    (refine ⟨_,_,Blk.ld (hp.get (i:=0) rfl) TTok rfl rfl,?_⟩; conv=>whnf)
    (refine hKq _ _ _ (.refl _) ?_; clear hKq Kq; conv=>whnf)
    (refine VSeq.mk fun Kq hKq=>?_; conv=>whnf)
    (refine And.intro (fun h=>absurd (of_decide_eq_true h) (by first | (intro h2; exact absurd rfl h2) | omega | decide)) (fun _=>?_); conv=>whnf)
    (refine ⟨_,_,Blk.ld (hp.get (i:=0) rfl) TTok rfl rfl,?_⟩; conv=>whnf)
    (refine hKq _ _ _ (.refl _) ?_; clear hKq Kq; conv=>whnf)
    (refine And.intro (fun h=>absurd (of_decide_eq_true h) (by first | (intro h2; exact absurd rfl h2) | omega | decide)) (fun _=>?_); conv=>whnf)
    (refine ⟨_,_,Blk.ld (hp.get (i:=0) rfl) TTok rfl rfl,?_⟩; conv=>whnf)
    (refine hKq _ _ _ (.refl _) ?_; clear hKq Kq; conv=>whnf)
    (refine And.intro (fun h=>absurd (of_decide_eq_true h) (by first | (intro h2; exact absurd rfl h2) | omega | decide)) (fun _=>?_); conv=>whnf)
    (refine hKq _ _ _ (.refl _) ?_; clear hKq Kq; conv=>whnf)
    (refine Or.inl (And.intro (by first | omega | decide) ?_); conv=>whnf)
    refine ⟨mm - 1,_,by omega,⟨i+1,by omega,rfl,fun b hb=>?_,hp.tail⟩,sub_cons rfl (sub_cons rfl (sub_cons rfl (sub_cons rfl sub_nil)))⟩
    rw [List.take_add_one,ha] at hb
    rcases List.mem_append.1 hb with hb | hb
    ·exact hall b hb
    ·have:b=a:=by simpa using hb
     rw [this]; exact haB
   ·have haB:=attrB_f hok
    have hb:stunB c m id al=false:=stunB_f fun h=>by
     have:=(stunB_t h).2.2.2.2.2.2.1 a (List.mem_of_getElem? ha)
     rw [haB] at this; cases this
    have hN:chkN c m id al=80:=by unfold chkN; rw [hb]; rfl
    (refine hp.kalloc z54 fun al54 w hp hx=>?_; conv=>whnf)
    (refine hp.kstA TTok rfl 0 rfl rfl (oneC_of rfl) (by rfl) fun w hp=>?_; try simp only [List.set_cons_zero,List.set_cons_succ,EV.val] at hp; conv=>whnf)
    (refine hKq _ _ _ (.refl _) ?_; clear hKq Kq; conv=>whnf)
    (refine VSeq.mk fun Kq hKq=>?_; conv=>whnf)
    (refine VSeq.mk fun Kq hKq=>?_; conv=>whnf)
    (refine ⟨_,_,Blk.ld (hp.get (i:=0) rfl) TTok rfl rfl,?_⟩; conv=>whnf)
    (refine hKq _ _ _ (.refl _) ?_; clear hKq Kq; conv=>whnf)
    (refine VSeq.mk fun Kq hKq=>?_; conv=>whnf)
    (refine ⟨fun hd=>?_,fun hd=>?_⟩ <;> (try simp only [Bool.not_eq_true',Bool.not_eq_false',decide_eq_true_eq,decide_eq_false_iff_not,ne_eq,Classical.not_not] at hd) <;> (conv=>whnf))
    (refine hKq _ _ _ (.refl _) ?_; clear hKq Kq; conv=>whnf)
    (refine hKq _ _ _ (.refl _) ?_; clear hKq Kq; conv=>whnf)
    (refine VSeq.mk fun Kq hKq=>?_; conv=>whnf)
    (refine hKq _ _ _ (.refl _) ?_; clear hKq Kq; conv=>whnf)
    (exact ⟨by (first | (rw [hN]; rfl) | fail),hp.ext⟩)
    (refine ⟨_,_,Blk.ld (hp.get (i:=0) rfl) TTok rfl rfl,?_⟩; conv=>whnf)
    (refine hKq _ _ _ (.refl _) ?_; clear hKq Kq; conv=>whnf)
    (refine ⟨fun hd=>?_,fun hd=>?_⟩ <;> (try simp only [Bool.not_eq_true',Bool.not_eq_false',decide_eq_true_eq,decide_eq_false_iff_not,ne_eq,Classical.not_not] at hd) <;> (conv=>whnf))
    (refine hKq _ _ _ (.refl _) ?_; clear hKq Kq; conv=>whnf)
    (refine VSeq.mk fun Kq hKq=>?_; conv=>whnf)
    (refine hKq _ _ _ (.refl _) ?_; clear hKq Kq; conv=>whnf)
    (exact ⟨by (first | (rw [hN]; rfl) | fail),hp.ext⟩)
    (refine ⟨_,_,Blk.ld (hp.get (i:=0) rfl) TTok rfl rfl,?_⟩; conv=>whnf)
    (refine hKq _ _ _ (.refl _) ?_; clear hKq Kq; conv=>whnf)
    (refine And.intro (fun _=>?_) (fun h=>absurd (by first | rfl | assumption | omega | decide) (of_decide_eq_false h)); conv=>whnf)
    (refine VSeq.mk fun Kq hKq=>?_; conv=>whnf)
    (refine hKq _ _ _ (.refl _) ?_; clear hKq Kq; conv=>whnf)
    (exact ⟨by (first | (rw [hN]; rfl) | fail),hp.ext⟩)
  ·have hlt:=of_decide_eq_false hlt
   conv=>whnf
   clear hKq Kq
   refine hKq _ _ _ (.refl _) ?_
   clear hKq Kq
   conv=>whnf
   refine VSeq.mk fun Kq hKq=>?_
   conv=>whnf
   refine VSeq.mk fun Kq hKq=>?_
   conv=>whnf
   obtain rfl:i=al.length:=by omega
   rw [List.take_of_length_le (Nat.le_refl _)] at hall
   have hz:=size_c (W:=w) (hv.ext hp.ext) (by omega) (fun a ha=>by have:=attrB_t (hall a ha); omega)
   have hsz:=sizeN_le al (fun a ha=>by have:=attrB_t (hall a ha); omega)
   by_cases h8:20+sizeN al≤1200
   ·have hb:stunB c m id al=true:=stunB_of g1 g2 g3 g4 g5 g6 hall h8
    have hN:chkN c m id al=0:=by unfold chkN; rw [hb]; rfl
    (refine ⟨_,_,Blk.ld (hp.get (i:=0) rfl) TTok rfl rfl,?_⟩; conv=>whnf)
    (refine V.CallW.out ?_; (conv=>arg 3; dsimp only [EV.val,List.toList_toArray,List.nil_append,List.append_nil,List.cons_append]); (with_reducible refine V.CallsUseW (hz) fun w hx=>?_); try (have hp:=hp.call hx); conv=>whnf)
    (refine Or.inl (And.intro (by first | omega | decide) ?_); conv=>whnf)
    (refine hKq _ _ _ (.refl _) ?_; clear hKq Kq; conv=>whnf)
    (refine And.intro (fun h=>absurd (of_decide_eq_true h) (by first | (intro h2; exact absurd rfl h2) | omega | decide)) (fun _=>?_); conv=>whnf)
    (refine hKq _ _ _ (.refl _) ?_; clear hKq Kq; conv=>whnf)
    (refine VSeq.mk fun Kq hKq=>?_; conv=>whnf)
    (refine hKq _ _ _ (.refl _) ?_; clear hKq Kq; conv=>whnf)
    (exact ⟨by (first | (rw [hN]; rfl) | fail),hp.ext⟩)
   ·have hb:stunB c m id al=false:=stunB_f fun h=>h8 (stunB_t h).2.2.2.2.2.2.2
    have hN:chkN c m id al=80:=by unfold chkN; rw [hb]; rfl
    (refine ⟨_,_,Blk.ld (hp.get (i:=0) rfl) TTok rfl rfl,?_⟩; conv=>whnf)
    (refine V.CallW.out ?_; (conv=>arg 3; dsimp only [EV.val,List.toList_toArray,List.nil_append,List.append_nil,List.cons_append]); (with_reducible refine V.CallsUseW (hz) fun w hx=>?_); try (have hp:=hp.call hx); conv=>whnf)
    (refine Or.inl (And.intro (by first | omega | decide) ?_); conv=>whnf)
    (refine hKq _ _ _ (.refl _) ?_; clear hKq Kq; conv=>whnf)
    (refine And.intro (fun _=>?_) (fun h=>absurd (by first | rfl | assumption | omega | decide) (of_decide_eq_false h)); conv=>whnf)
    (refine VSeq.mk fun Kq hKq=>?_; conv=>whnf)
    (refine hKq _ _ _ (.refl _) ?_; clear hKq Kq; conv=>whnf)
    (exact ⟨by (first | (rw [hN]; rfl) | fail),hp.ext⟩)
 ·have hb:stunB c m id al=false:=stunB_f fun h=>hg (by have:=stunB_t h; exact ⟨this.1,this.2.1,this.2.2.1,this.2.2.2.1,this.2.2.2.2.1,this.2.2.2.2.2.1⟩)
  unfold chkN
  rw [hb]
  refine v_reads (args:=[.agg #[.int .i64 c,.int .i64 m,.string id,.slice p al.length cp]]) TTok FFok Tryz.func17 rfl rfl ?_
  conv=>whnf
  refine VSeq.mk fun Kq hKq=>?_
  conv=>whnf
  have hp:=Hp.nil W
  (refine hp.kboxA fun q w hp hx=>?_; conv=>whnf)
  (refine hKq _ _ _ (.refl _) ?_; clear hKq Kq; conv=>whnf)
  (refine VSeq.mk fun Kq hKq=>?_; conv=>whnf)
  (refine VSeq.mk fun Kq hKq=>?_; conv=>whnf)
  (refine VSeq.mk fun Kq hKq=>?_; conv=>whnf)
  (refine ⟨_,_,Blk.ld (hp.get (i:=0) rfl) TTok rfl rfl,?_⟩; conv=>whnf)
  (refine hKq _ _ _ (.refl _) ?_; clear hKq Kq; conv=>whnf)
  (refine VSeq.mk fun Kq hKq=>?_; conv=>whnf)
  (refine ⟨fun hd=>?_,fun hd=>?_⟩ <;> (try simp only [Bool.not_eq_true',Bool.not_eq_false',decide_eq_true_eq,decide_eq_false_iff_not,ne_eq,Classical.not_not] at hd) <;> (conv=>whnf))
  (refine hKq _ _ _ (.refl _) ?_; clear hKq Kq; conv=>whnf)
  (refine VSeq.mk fun Kq hKq=>?_; conv=>whnf)
  (refine hKq _ _ _ (.refl _) ?_; clear hKq Kq; conv=>whnf)
  (refine VSeq.mk fun Kq hKq=>?_; conv=>whnf)
  (refine hKq _ _ _ (.refl _) ?_; clear hKq Kq; conv=>whnf)
  (refine VSeq.mk fun Kq hKq=>?_; conv=>whnf)
  (refine hKq _ _ _ (.refl _) ?_; clear hKq Kq; conv=>whnf)
  (refine hKq _ _ _ (.refl _) ?_; clear hKq Kq; conv=>whnf)
  (refine VSeq.mk fun Kq hKq=>?_; conv=>whnf)
  (refine hKq _ _ _ (.refl _) ?_; clear hKq Kq; conv=>whnf)
  (exact ⟨rfl,hp.ext⟩)
  (refine ⟨_,_,Blk.ld (hp.get (i:=0) rfl) TTok rfl rfl,?_⟩; conv=>whnf)
  (refine hKq _ _ _ (.refl _) ?_; clear hKq Kq; conv=>whnf)
  (refine VSeq.mk fun Kq hKq=>?_; conv=>whnf)
  (refine ⟨fun hd=>?_,fun hd=>?_⟩ <;> (try simp only [Bool.not_eq_true',Bool.not_eq_false',decide_eq_true_eq,decide_eq_false_iff_not,ne_eq,Classical.not_not] at hd) <;> (conv=>whnf))
  (refine hKq _ _ _ (.refl _) ?_; clear hKq Kq; conv=>whnf)
  (refine VSeq.mk fun Kq hKq=>?_; conv=>whnf)
  (refine hKq _ _ _ (.refl _) ?_; clear hKq Kq; conv=>whnf)
  (refine VSeq.mk fun Kq hKq=>?_; conv=>whnf)
  (refine hKq _ _ _ (.refl _) ?_; clear hKq Kq; conv=>whnf)
  (refine hKq _ _ _ (.refl _) ?_; clear hKq Kq; conv=>whnf)
  (refine VSeq.mk fun Kq hKq=>?_; conv=>whnf)
  (refine hKq _ _ _ (.refl _) ?_; clear hKq Kq; conv=>whnf)
  (exact ⟨rfl,hp.ext⟩)
  (refine ⟨_,_,Blk.ld (hp.get (i:=0) rfl) TTok rfl rfl,?_⟩; conv=>whnf)
  (refine hKq _ _ _ (.refl _) ?_; clear hKq Kq; conv=>whnf)
  (refine VSeq.mk fun Kq hKq=>?_; conv=>whnf)
  (refine ⟨fun hd=>?_,fun hd=>?_⟩ <;> (try simp only [Bool.not_eq_true',Bool.not_eq_false',decide_eq_true_eq,decide_eq_false_iff_not,ne_eq,Classical.not_not] at hd) <;> (conv=>whnf))
  (refine hKq _ _ _ (.refl _) ?_; clear hKq Kq; conv=>whnf)
  (refine VSeq.mk fun Kq hKq=>?_; conv=>whnf)
  (refine hKq _ _ _ (.refl _) ?_; clear hKq Kq; conv=>whnf)
  (refine hKq _ _ _ (.refl _) ?_; clear hKq Kq; conv=>whnf)
  (refine VSeq.mk fun Kq hKq=>?_; conv=>whnf)
  (refine hKq _ _ _ (.refl _) ?_; clear hKq Kq; conv=>whnf)
  (exact ⟨rfl,hp.ext⟩)
  (refine ⟨_,_,Blk.ld (hp.get (i:=0) rfl) TTok rfl rfl,?_⟩; conv=>whnf)
  (refine hKq _ _ _ (.refl _) ?_; clear hKq Kq; conv=>whnf)
  (refine VSeq.mk fun Kq hKq=>?_; conv=>whnf)
  (refine ⟨fun hd=>?_,fun hd=>?_⟩ <;> (try simp only [Bool.not_eq_true',Bool.not_eq_false',decide_eq_true_eq,decide_eq_false_iff_not,ne_eq,Classical.not_not] at hd) <;> (conv=>whnf))
  (refine hKq _ _ _ (.refl _) ?_; clear hKq Kq; conv=>whnf)
  (refine hKq _ _ _ (.refl _) ?_; clear hKq Kq; conv=>whnf)
  (refine VSeq.mk fun Kq hKq=>?_; conv=>whnf)
  (refine hKq _ _ _ (.refl _) ?_; clear hKq Kq; conv=>whnf)
  (exact ⟨rfl,hp.ext⟩)
  (refine ⟨_,_,Blk.ld (hp.get (i:=0) rfl) TTok rfl rfl,?_⟩; conv=>whnf)
  (refine hKq _ _ _ (.refl _) ?_; clear hKq Kq; conv=>whnf)
  (refine ⟨fun hd=>?_,fun hd=>?_⟩ <;> (try simp only [Bool.not_eq_true',Bool.not_eq_false',decide_eq_true_eq,decide_eq_false_iff_not,ne_eq,Classical.not_not] at hd) <;> (conv=>whnf))
  (refine hKq _ _ _ (.refl _) ?_; clear hKq Kq; conv=>whnf)
  (refine VSeq.mk fun Kq hKq=>?_; conv=>whnf)
  (refine hKq _ _ _ (.refl _) ?_; clear hKq Kq; conv=>whnf)
  (exact ⟨rfl,hp.ext⟩)
  (refine ⟨_,_,Blk.ld (hp.get (i:=0) rfl) TTok rfl rfl,?_⟩; conv=>whnf)
  (refine hKq _ _ _ (.refl _) ?_; clear hKq Kq; conv=>whnf)
  (refine And.intro (fun _=>?_) (fun h=>absurd (by first | rfl | assumption | omega | decide) (of_decide_eq_false h)); conv=>whnf)
  (refine VSeq.mk fun Kq hKq=>?_; conv=>whnf)
  (refine hKq _ _ _ (.refl _) ?_; clear hKq Kq; conv=>whnf)
  (exact ⟨rfl,hp.ext⟩)
end Go.Proofs.YtmlmfmdmomegpaaGreatDoor
