/- Chapter 08: kinds that are not known. -/
/- Chapter 08: the reference: kinds that are not known; lists of integers. -/
/- Chapter 08: the reference: the octets of a message. -/
/- Chapter 08: the law's small functions. -/
/- Chapter 08: drafted messages. -/
/- Chapter 08: the messages of a law: what is cut. -/
/- Chapter 08: the messages of a law: what is bent. -/
/- Chapter 08: a message is protected. -/
import Derived.Test.YtmlmfmdmomegpaaGreatDoorGU08
import Derived.Test.YtmlmfmdmomegpaaGreatDoorGU02
import Derived.Test.YtmlmfmdmomegpaaGreatDoorGU06
namespace Go.Proofs.YtmlmfmdmomegpaaGreatDoor
set_option linter.unusedSimpArgs false
set_option linter.unusedVariables false
set_option maxRecDepth 100000
open Go.RowKit V
set_option maxHeartbeats 6400000
def knL:List Int:=[1,6,8,9,10,12,13,18,19,20,21,22,25,32,36,37]
def knV:List Value:=knL.map (Value.int .i64)
def kvS (l:List Int):List (Int × Value):=l.map fun k=>(k,.bool true)
theorem kv_find (l:List Int) (k:Int):(kvS l).find? (fun p=>decide (p.1=k))=if l.contains k then some (k,.bool true) else none:=by
 induction l with
 | nil=>rfl
 | cons x l ih =>
  unfold kvS at ih ⊢
  rw [List.map_cons,List.find?_cons]
  by_cases h:x=k
  ·subst h
   simp
  ·have h2:¬ k=x:=fun e=>h e.symm
   simp only [decide_eq_false h]
   rw [ih]
   simp [List.contains_cons,h2]
theorem kvS_snoc (l:List Int) (k:Int):kvS l++[(k,.bool true)]=kvS (l++[k]):=by unfold kvS; rw [List.map_append]; rfl
theorem t_kmap:Tryz.prog.underlying 136=some (.map 3 4):=by kernel_rfl
theorem t_kint:Tryz.prog.underlying 3=some (.int .i64):=by kernel_rfl
theorem z_kbool (w:World):(zeroValue 4).run Tryz.prog w = .ok (.bool false) w:=by kernel_rfl
theorem kn_take (i:Nat) (h:i < 16):((knL.take i).contains (knL.getD i 0))=false:=by
 have:i=0∨i=1∨i=2∨i=3∨i=4∨i=5∨i=6∨i=7∨i=8∨i=9∨i=10∨i=11∨i=12∨i=13∨i=14∨i=15:=by omega
 rcases this with rfl | rfl | rfl | rfl | rfl | rfl | rfl | rfl | rfl | rfl | rfl | rfl | rfl | rfl | rfl | rfl <;> rfl
theorem kn_snoc (i:Nat) (h:i < 16):knL.take i++[knL.getD i 0]=knL.take (i+1):=by
 rw [List.take_add_one,List.getD_eq_getElem?_getD,List.getElem?_eq_getElem (show i < knL.length from h)]; rfl
theorem kn_get (i:Nat) (h:i < 16):knV[i]? = some (.int .i64 (knL.getD i 0)):=by
 unfold knV
 rw [List.getElem?_map,List.getD_eq_getElem?_getD,List.getElem?_eq_getElem (show i < knL.length from h)]; rfl
theorem known_c {W:World}:Calls Tryz.prog 76 #[] W fun e w'=>∃ u,e = .returned u∧∃ b,u = .map (some b)∧HpM [] W w' [mp b (kvS knL)]:=by
 refine v_fn (args:=[]) TTok FFok (f:=76) rfl rfl (Nat.le_of_ble_eq_true rfl) ?_
 conv=>whnf
 refine VSeq.mk fun Kq hKq=>?_
 conv=>whnf
 refine hKq _ _ _ (.refl _) ?_
 clear hKq Kq
 conv=>whnf
 refine VSeq.mk fun Kq hKq=>?_
 conv=>whnf
 have hp:=Hp.nil W
 refine hp.kmap fun b w1 hp hx=>?_
 conv=>whnf
 refine hKq _ _ _ (.refl _) ?_
 clear hKq Kq
 conv=>whnf
 refine VSeq.mk fun Kq hKq=>?_
 conv=>whnf
 refine VSeq.mk fun Kq hKq=>?_
 conv=>whnf
 refine hp.kmade (knV) 3 (fun b=>.slice (some ⟨b,0,none⟩) 16 16) (by kernel_rfl) fun tb w hp hx=>?_
 conv=>whnf
 refine hKq _ _ _ (.refl _) ?_
 clear hKq Kq
 conv=>whnf
 refine ⟨fun mm e w'=>∃ (i:Nat),mm+i=16∧e=[(1,.v (.map (some b))),(5,.v (.slice (some ⟨tb,0,none⟩) 16 16)),(6,.v (.int .i64 16)),(7,.v (.int .i64 i))]∧HpM [] W w' [blk tb knV 3,mp b (kvS (knL.take i))],
  ⟨16,_,⟨0,by omega,rfl,hp⟩,sub_cons rfl (sub_cons rfl (sub_cons rfl (sub_cons rfl sub_nil)))⟩,?_⟩
 clear hp hx
 repeat clear hp
 rintro mm _ w ⟨i,hmm,rfl,hp⟩
 conv=>whnf
 refine VSeq.mk fun Kq hKq=>?_
 conv=>whnf
 refine hKq _ _ _ (.refl _) ?_
 clear hKq Kq
 conv=>whnf
 refine VSeq.mk fun Kq hKq=>?_
 conv=>whnf
 refine ⟨fun hlt=>?_,fun hlt=>?_⟩
 ·have hlt:=of_decide_eq_true hlt
  conv=>whnf
  refine hKq _ _ _ (.refl _) ?_
  clear hKq Kq
  conv=>whnf
  refine VSeq.mk fun Kq hKq=>?_
  conv=>whnf
  refine VSeq.mk fun Kq hKq=>?_
  conv=>whnf
  have hi:i < 16:=by omega
  refine ⟨i,⟨by first | rfl | omega,by omega⟩,?_⟩
  conv=>whnf
  refine ⟨_,_,Blk.ld (hp.get (i:=0) rfl) TTok rfl (kn_get i hi),?_⟩
  conv=>whnf
  refine hKq _ _ _ (.refl _) ?_
  clear hKq Kq
  conv=>whnf
  refine hp.kins t_kmap t_kint 1 rfl (by rw [kv_find,kn_take i hi]; rfl) fun w hp=>?_
  have hp:HpM [] W w [blk tb knV 3,mp b (kvS (knL.take i)++[(knL.getD i 0,.bool true)])]:=hp
  rw [kvS_snoc,kn_snoc i hi] at hp
  conv=>whnf
  refine hKq _ _ _ (.refl _) ?_
  clear hKq Kq
  conv=>whnf
  refine Or.inl (And.intro (by omega) ?_)
  conv=>whnf
  exact ⟨mm - 1,_,by omega,⟨i+1,by omega,rfl,hp⟩,sub_cons rfl (sub_cons rfl (sub_cons rfl (sub_cons rfl sub_nil)))⟩
 ·have hlt:=of_decide_eq_false hlt
  conv=>whnf
  clear hKq Kq
  refine hKq _ _ _ (.refl _) ?_
  clear hKq Kq
  conv=>whnf
  refine VSeq.mk fun Kq hKq=>?_
  conv=>whnf
  refine hKq _ _ _ (.refl _) ?_
  clear hKq Kq
  conv=>whnf
  obtain rfl:i=16:=by omega
  conv=>whnf
  exact ⟨b,rfl,hp.tail⟩
theorem MPs.lookB {w:World} {b:Nat} {l:List Int} (h:MPs w b (kvS l)) (k:Int):(Instr.lookup 136 (.map (some b)) (.int .i64 k) false).run Tryz.prog w = .ok (.bool (l.contains k)) w:=by
 rw [h.look t_kmap t_kint (z_kbool w) k false,kv_find]
 cases l.contains k <;> rfl
/-- the kinds that are told as not known -/
def unC (out:List Int) (k:Int):Bool:=decide (k < 32768) && !((knL++out).contains k)
def unS (out:List Int) (a:At2):List Int:=if unC out a.1=true then out++[a.1] else out
def unL (al:List At2):List Int:=al.foldl unS []
theorem unL_snoc (l:List At2) (a:At2):unL (l++[a])=unS (unL l) a:=by unfold unL; rw [List.foldl_append]; rfl
theorem unS_len (out:List Int) (a:At2):(unS out a).length≤out.length+1:=by unfold unS; split <;> simp
theorem unL_len (l:List At2):(unL l).length≤l.length:=by
 suffices h:∀ (l:List At2) (o:List Int),(l.foldl unS o).length≤o.length+l.length by have:=h l []; simpa [unL] using this
 intro l
 induction l with
 | nil=>intro o; simp
 | cons a l ih=>intro o; have:=ih (unS o a); have:=unS_len o a; rw [List.foldl_cons,List.length_cons]; omega
theorem unL_take {al:List At2} {i:Nat} {a:At2} (h:al[i]? = some a):unL (al.take (i+1))=unS (unL (al.take i)) a:=by
 rw [List.take_add_one,h]; exact unL_snoc _ _
theorem Unknown_ok {W:World} {v:Value} {al:List At2} (c m:Int) (id:ByteArray) (hv:SA W v al) (hb:stunB c m id al=true) :
  Calls Tryz.prog 22 #[.agg #[.int .i64 c,.int .i64 m,.string id,v]] W fun e w'=>∃ u,e = .returned u∧∃ v',u = .tuple #[v',.int .i64 0]∧HpM [] W w' [row 3 1 v' (unL al).length ((unL al).map (.int .i64))]:=by
 obtain ⟨b1,b2,b3,b4,b5,b6,b7,b8⟩:=stunB_t hb
 obtain ⟨p,cp,rfl⟩:=hv.shape
 refine v_fn (args:=[.agg #[.int .i64 c,.int .i64 m,.string id,.slice p al.length cp]]) TTok FFok (f:=22) rfl rfl (Nat.le_of_ble_eq_true rfl) ?_
 conv=>whnf
 refine VSeq.mk fun Kq hKq=>?_
 conv=>whnf
 have hp:=Hp.nil W
 have hck:=fun (w:World) (hx:Ext W w)=>Check_c c m id (hv.ext hx)
 have hN:chkN c m id al=0:=by unfold chkN; rw [hb]; rfl
 rw [hN] at hck
 refine hp.kboxA fun qs w hp hx=>?_
 conv=>whnf
 refine hKq _ _ _ (.refl _) ?_
 clear hKq Kq
 conv=>whnf
 refine VSeq.mk fun Kq hKq=>?_
 conv=>whnf
 refine VSeq.mk fun Kq hKq=>?_
 conv=>whnf
 (refine ⟨_,_,Blk.ldV (vs:=[_,_,_,_]) (hp.get (i:=0) rfl) TTok rfl rfl rfl,?_⟩; conv=>whnf)
 refine V.CallsUse (hck _ hp.ext) fun w hx=>?_
 try (have hp:=hp.call hx)
 conv=>whnf
 refine hKq _ _ _ (.refl _) ?_
 clear hKq Kq
 conv=>whnf
 refine VSeq.mk fun Kq hKq=>?_
 conv=>whnf
 refine hKq _ _ _ (.refl _) ?_
 clear hKq Kq
 conv=>whnf
 clear hck
 (refine And.intro (fun h=>absurd (of_decide_eq_true h) (by first | (intro h2; exact absurd rfl h2) | omega | decide)) (fun _=>?_); conv=>whnf)
 (refine hKq _ _ _ (.refl _) ?_; clear hKq Kq; conv=>whnf)
 (refine VSeq.mk fun Kq hKq=>?_; conv=>whnf)
 refine Calls.mono known_c ?_
 rintro _ w ⟨_,rfl,b,rfl,hk⟩
 refine ⟨_,rfl,?_⟩
 have hp:=hp.join hk
 clear hk
 simp only [List.cons_append,List.nil_append] at hp
 conv=>whnf
 have hp:=hp.knil 3 1
 (refine hKq _ _ _ (.refl _) ?_; clear hKq Kq; conv=>whnf)
 (refine VSeq.mk fun Kq hKq=>?_; conv=>whnf)
 (refine hKq _ _ _ (.refl _) ?_; clear hKq Kq; conv=>whnf)
 (refine VSeq.mk fun Kq hKq=>?_; conv=>whnf)
 (refine VSeq.mk fun Kq hKq=>?_; conv=>whnf)
 (refine ⟨_,_,Blk.ld (hp.get (i:=2) rfl) TTok rfl rfl,?_⟩; conv=>whnf)
 (refine hKq _ _ _ (.refl _) ?_; clear hKq Kq; conv=>whnf)
 have hp:HpM [] W w [row 3 1 (.slice none 0 0) 0 [],mp b (kvS (knL++[])),blk qs [.int .i64 c,.int .i64 m,.string id,.slice p al.length cp] 24]:=by rw [List.append_nil]; exact hp
 refine ⟨fun mm e w'=>∃ (i:Nat) (u:Value),mm+i=al.length∧e=[(5,.v (.map (some b))),(6,.v u),(16,.v (.slice p al.length cp)),(17,.v (.int .i64 al.length)),(18,.v (.int .i64 i))]∧HpM [] W w' [row 3 1 u (unL (al.take i)).length ((unL (al.take i)).map (.int .i64)),mp b (kvS (knL++unL (al.take i))),blk qs [.int .i64 c,.int .i64 m,.string id,.slice p al.length cp] 24],
  ⟨al.length,_,⟨0,_,by omega,rfl,hp⟩,sub_cons rfl (sub_cons rfl (sub_cons rfl (sub_cons rfl (sub_cons rfl sub_nil))))⟩,?_⟩
 clear hp hx
 repeat clear hp
 rintro mm _ w ⟨i,u,hmm,rfl,hp⟩
 have hol:=unL_len (al.take i)
 have htl:(al.take i).length≤al.length:=by rw [List.length_take]; omega
 conv=>whnf
 refine VSeq.mk fun Kq hKq=>?_
 conv=>whnf
 refine hKq _ _ _ (.refl _) ?_
 clear hKq Kq
 conv=>whnf
 refine VSeq.mk fun Kq hKq=>?_
 conv=>whnf
 refine ⟨fun hlt=>?_,fun hlt=>?_⟩
 ·have hlt:=of_decide_eq_true hlt
  conv=>whnf
  refine hKq _ _ _ (.refl _) ?_
  clear hKq Kq
  conv=>whnf
  refine VSeq.mk fun Kq hKq=>?_
  conv=>whnf
  refine VSeq.mk fun Kq hKq=>?_
  conv=>whnf
  obtain ⟨a,ha⟩:∃ a,al[i]? = some a:=⟨al[i]'(by omega),List.getElem?_eq_getElem (by omega)⟩
  have hst:=unL_take ha
  obtain ⟨g,off,rfl,hld⟩:=(hv.ext hp.ext).at ha
  obtain ⟨k,s⟩:=a
  dsimp only at hld
  generalize unL (al.take i)=out at *
  refine ⟨i,⟨by first | rfl | omega,by show i < al.length; omega⟩,?_⟩
  conv=>whnf
  refine ⟨_,_,hld,?_⟩
  conv=>whnf
  refine hp.kalloc z54 fun a8 w hp hx=>?_
  conv=>whnf
  (refine hp.kstA TTok rfl 0 rfl rfl (oneC_of rfl) (by rfl) fun w hp=>?_; try simp only [List.set_cons_zero,List.set_cons_succ,EV.val] at hp; conv=>whnf)
  (refine hKq _ _ _ (.refl _) ?_; clear hKq Kq; conv=>whnf)
  (refine VSeq.mk fun Kq hKq=>?_; conv=>whnf)
  (refine VSeq.mk fun Kq hKq=>?_; conv=>whnf)
  (refine ⟨_,_,Blk.ld (hp.get (i:=0) rfl) TTok rfl rfl,?_⟩; conv=>whnf)
  (refine hKq _ _ _ (.refl _) ?_; clear hKq Kq; conv=>whnf)
  by_cases h1:k < 32768
  ·(refine And.intro (fun _=>?_) (fun h=>absurd (by first | rfl | assumption | omega | decide) (of_decide_eq_false h)); conv=>whnf)
   (refine ⟨_,_,Blk.ld (hp.get (i:=0) rfl) TTok rfl rfl,?_⟩; conv=>whnf)
   refine ⟨_,_,MPs.lookB (hp.get (i:=2) rfl) k,?_⟩
   conv=>whnf
   refine hKq _ _ _ (.refl _) ?_
   clear hKq Kq
   conv=>whnf
   cases hc:(knL++out).contains k with
   | true =>
    have hS:unS out (k,s)=out:=by unfold unS unC; rw [hc]; simp
    rw [hS] at hst
    (refine And.intro (fun h=>absurd h (by decide)) (fun _=>?_); conv=>whnf)
    (refine hKq _ _ _ (.refl _) ?_; clear hKq Kq; conv=>whnf)
    (refine Or.inl (And.intro (by first | omega | decide) ?_); conv=>whnf)
    refine ⟨mm - 1,_,by omega,⟨i+1,_,by omega,rfl,?_⟩,sub_cons rfl (sub_cons rfl (sub_cons rfl (sub_cons rfl (sub_cons rfl sub_nil))))⟩
    rw [hst]; exact hp.tail
   | false =>
    have hS:unS out (k,s)=out++[k]:=by unfold unS unC; rw [hc]; simp [h1]
    rw [hS] at hst
    (refine And.intro (fun _=>?_) (fun h=>absurd h (by decide)); conv=>whnf)
    (refine VSeq.mk fun Kq hKq=>?_; conv=>whnf)
    (refine ⟨_,_,Blk.ld (hp.get (i:=0) rfl) TTok rfl rfl,?_⟩; conv=>whnf)
    (refine hp.kmade _ _ (fun b=>.slice (some ⟨b,0,none⟩) 1 1) (mks48_1_0 _ _) fun q w hp hx=>?_; conv=>whnf)
    refine hp.kapp sl48 2 rfl (Blk.src TTok (hp.get (i:=0) rfl) rfl rfl (oneC_of rfl)) (by show (_+1) * 8≤_; omega) (by show _+1≤_; unfold maxLen; omega) fun u' w hp=>?_
    simp only [List.set_cons_zero,List.set_cons_succ] at hp
    conv=>whnf
    refine hKq _ _ _ (.refl _) ?_
    clear hKq Kq
    conv=>whnf
    (refine ⟨_,_,Blk.ld (hp.get (i:=1) rfl) TTok rfl rfl,?_⟩; conv=>whnf)
    refine hp.kins t_kmap t_kint 3 rfl (by rw [kv_find,hc]; rfl) fun w hp=>?_
    have hp:=hp.pick [2,3,4] (by decide)
    simp only [List.filterMap_cons,List.filterMap_nil,List.getElem?_cons_zero,List.getElem?_cons_succ,List.set_cons_zero,List.set_cons_succ] at hp
    have hp:HpM [] W w [row 3 1 u' (out.length+1) (out.map (.int .i64)++[.int .i64 k]),mp b (kvS (knL++out)++[(k,.bool true)]),blk qs [.int .i64 c,.int .i64 m,.string id,.slice (some ⟨g,off,none⟩) al.length cp] 24]:=hp
    rw [kvS_snoc,List.append_assoc] at hp
    conv=>whnf
    refine hKq _ _ _ (.refl _) ?_
    clear hKq Kq
    conv=>whnf
    refine Or.inl (And.intro (by omega) ?_)
    conv=>whnf
    skip
    refine ⟨mm - 1,_,by omega,⟨i+1,_,by omega,rfl,?_⟩,sub_cons rfl (sub_cons rfl (sub_cons rfl (sub_cons rfl (sub_cons rfl sub_nil))))⟩
    rw [hst,List.length_append,List.map_append]; exact hp
  ·have hS:unS out (k,s)=out:=by unfold unS unC; simp [h1]
   rw [hS] at hst
   (refine And.intro (fun h=>absurd (of_decide_eq_true h) (by first | (intro h2; exact absurd rfl h2) | omega | decide)) (fun _=>?_); conv=>whnf)
   (refine hKq _ _ _ (.refl _) ?_; clear hKq Kq; conv=>whnf)
   (refine hKq _ _ _ (.refl _) ?_; clear hKq Kq; conv=>whnf)
   (refine Or.inl (And.intro (by first | omega | decide) ?_); conv=>whnf)
   refine ⟨mm - 1,_,by omega,⟨i+1,_,by omega,rfl,?_⟩,sub_cons rfl (sub_cons rfl (sub_cons rfl (sub_cons rfl (sub_cons rfl sub_nil))))⟩
   rw [hst]; exact hp.tail
 ·have hlt:=of_decide_eq_false hlt
  conv=>whnf
  clear hKq Kq
  refine hKq _ _ _ (.refl _) ?_
  clear hKq Kq
  conv=>whnf
  refine VSeq.mk fun Kq hKq=>?_
  conv=>whnf
  refine hKq _ _ _ (.refl _) ?_
  clear hKq Kq
  conv=>whnf
  obtain rfl:i=al.length:=by omega
  rw [List.take_of_length_le (Nat.le_refl _)] at hp
  skip
  exact ⟨_,rfl,hp.sub (List.Sublist.cons_cons _ (List.nil_sublist _))⟩
set_option maxHeartbeats 6400000
theorem ints8_c {W:World} {v u:Value} (xs ys:List Int) (hv:SLv W v (xs.map (.int .i64))) (hu:SLv W u (ys.map (.int .i64))) (hx:xs.length≤100000) (hy:ys.length≤100000) :
  Calls Tryz.prog 23 #[v,u] W fun e w'=>e = .returned (.bool (decide (xs=ys)))∧Ext W w':=by
 obtain ⟨p,c,rfl⟩:=hv.shape
 obtain ⟨p2,c2,rfl⟩:=hu.shape
 rw [List.length_map] at hv hu ⊢
 rw [List.length_map]
 refine v_reads (args:=[.slice p xs.length c,.slice p2 ys.length c2]) TTok FFok Tryz.func23 rfl rfl ?_
 conv=>whnf
 refine VSeq.mk fun Kq hKq=>?_
 conv=>whnf
 refine hKq _ _ _ (.refl _) ?_
 clear hKq Kq
 conv=>whnf
 refine VSeq.mk fun Kq hKq=>?_
 conv=>whnf
 refine VSeq.mk fun Kq hKq=>?_
 conv=>whnf
 refine hKq _ _ _ (.refl _) ?_
 clear hKq Kq
 conv=>whnf
 by_cases hl:xs.length=ys.length
 ·(refine And.intro (fun h=>absurd (of_decide_eq_true h) (by first | (intro h2; exact absurd rfl h2) | omega | decide)) (fun _=>?_); conv=>whnf)
  (refine hKq _ _ _ (.refl _) ?_; clear hKq Kq; conv=>whnf)
  (refine VSeq.mk fun Kq hKq=>?_; conv=>whnf)
  (refine VSeq.mk fun Kq hKq=>?_; conv=>whnf)
  (refine hKq _ _ _ (.refl _) ?_; clear hKq Kq; conv=>whnf)
  refine ⟨fun mm e w'=>∃ (i:Nat),mm+i=xs.length∧e=[(0,.v (.slice p xs.length c)),(1,.v (.slice p2 ys.length c2)),(5,.v (.int .i64 i))]∧xs.take i=ys.take i∧Ext W w',
   ⟨xs.length,_,⟨0,by omega,rfl,rfl,Ext.refl _⟩,sub_cons rfl (sub_cons rfl (sub_cons rfl sub_nil))⟩,?_⟩
  rintro mm _ w ⟨i,hmm,rfl,hall,hxw⟩
  conv=>whnf
  refine VSeq.mk fun Kq hKq=>?_
  conv=>whnf
  refine VSeq.mk fun Kq hKq=>?_
  conv=>whnf
  refine hKq _ _ _ (.refl _) ?_
  clear hKq Kq
  conv=>whnf
  refine ⟨fun hlt=>?_,fun hlt=>?_⟩
  ·have hlt:=of_decide_eq_true hlt
   conv=>whnf
   refine hKq _ _ _ (.refl _) ?_
   clear hKq Kq
   conv=>whnf
   refine VSeq.mk fun Kq hKq=>?_
   conv=>whnf
   refine VSeq.mk fun Kq hKq=>?_
   conv=>whnf
   obtain ⟨a,ha⟩:∃ a,xs[i]? = some a:=⟨xs[i]'(by omega),List.getElem?_eq_getElem (by omega)⟩
   obtain ⟨b,hb⟩:∃ b,ys[i]? = some b:=⟨ys[i]'(by omega),List.getElem?_eq_getElem (by omega)⟩
   obtain ⟨g,off,rfl,hld⟩:=(hv.ext hxw).at (j:=i) (x:=.int .i64 a) (by rw [List.getElem?_map,ha]; rfl)
   obtain ⟨g2,off2,rfl,hld2⟩:=(hu.ext hxw).at (j:=i) (x:=.int .i64 b) (by rw [List.getElem?_map,hb]; rfl)
   rw [Nat.add_comm] at hld hld2
   refine v_mixA TTok FFok mixed [(0,false),(1,false),(2,false),(3,false),(4,false),(5,false),(6,false),(7,false),(8,false)] (by kernel_rfl) ?_
   conv=>whnf
   refine ⟨i,⟨by first | rfl | omega,by show i < xs.length; omega⟩,?_⟩
   conv=>whnf
   refine ⟨_,fun w' hx'=>run_ld TTok rfl (hx'.cell hld),?_⟩
   conv=>whnf
   refine ⟨i,⟨by first | rfl | omega,by show i < ys.length; omega⟩,?_⟩
   conv=>whnf
   refine ⟨_,fun w' hx'=>run_ld TTok rfl (hx'.cell hld2),?_⟩
   conv=>whnf
   intro w hx
   try (have hp:=hp.call hx)
   conv=>whnf
   refine hKq _ _ _ (.refl _) ?_
   clear hKq Kq
   conv=>whnf
   refine ⟨fun hq=>?_,fun hq=>?_⟩
   ·have hq:¬ a=b:=by simpa using hq
    have hF:decide (xs=ys)=false:=decide_eq_false fun h=>hq (by subst h; rw [ha] at hb; exact Option.some.inj hb)
    conv=>whnf
    refine VSeq.mk fun Kq hKq=>?_
    conv=>whnf
    refine hKq _ _ _ (.refl _) ?_
    clear hKq Kq
    conv=>whnf
    exact ⟨by rw [hF]; rfl,hxw.trans hx⟩
   ·have hq:a=b:=by simpa using hq
    subst hq
    conv=>whnf
    refine hKq _ _ _ (.refl _) ?_
    clear hKq Kq
    conv=>whnf
    refine Or.inl (And.intro (by omega) ?_)
    conv=>whnf
    exact ⟨mm - 1,_,by omega,⟨i+1,by omega,rfl,by rw [List.take_add_one,List.take_add_one,ha,hb,hall],hxw.trans hx⟩,sub_cons rfl (sub_cons rfl (sub_cons rfl sub_nil))⟩
  ·have hlt:=of_decide_eq_false hlt
   conv=>whnf
   clear hKq Kq
   refine hKq _ _ _ (.refl _) ?_
   clear hKq Kq
   conv=>whnf
   refine VSeq.mk fun Kq hKq=>?_
   conv=>whnf
   refine hKq _ _ _ (.refl _) ?_
   clear hKq Kq
   conv=>whnf
   obtain rfl:i=xs.length:=by omega
   have hF:decide (xs=ys)=true:=decide_eq_true (by
    rw [List.take_of_length_le (Nat.le_refl _),List.take_of_length_le (by omega)] at hall
    exact hall)
   conv=>whnf
   exact ⟨by rw [hF]; rfl,hxw⟩
 ·have hF:decide (xs=ys)=false:=decide_eq_false fun h=>hl (by rw [h])
  (refine And.intro (fun _=>?_) (fun h=>absurd (by first | rfl | assumption | omega | decide) (of_decide_eq_false h)); conv=>whnf)
  (refine VSeq.mk fun Kq hKq=>?_; conv=>whnf)
  (refine hKq _ _ _ (.refl _) ?_; clear hKq Kq; conv=>whnf)
  exact ⟨by rw [hF]; rfl,Ext.refl _⟩
set_option maxHeartbeats 6400000
def wrI (c m:Nat) (id:ByteArray) (n:Nat) (l:List At2):ByteArray:=⟨(headL c m id n++attrsL l).toArray⟩
theorem wrI_0 (c m:Nat) (id:ByteArray) (n:Nat):beB 2 (kindN c m)++beB 2 n++beB 4 554869826++id=wrI c m id n []:=by
 apply ByteArray.ext
 simp [wrI,headL,attrsL,beB]
theorem wrI_app (c m:Nat) (id:ByteArray) (n:Nat) (l:List At2) (k:Nat) (s:ByteArray):wrI c m id n l++beB 2 k++beB 2 s.size++padB s=wrI c m id n (l++[((k:Int),s)]):=by
 apply ByteArray.ext
 simp [wrI,attrsL,attrL,beB]
theorem wrI_size (c m:Nat) (id:ByteArray) (n:Nat) (l:List At2):(wrI c m id n l).size=8+id.size+sizeN l:=by
 unfold wrI; rw [bA_size,List.length_append,headL_len,attrsL_len]
theorem written8_c {W:World} {v mv:Value} {al:List At2} (hv:SA W v al) (c m:Nat) (id:ByteArray) (more:Nat) (hmv:∃ p n cp,mv = .slice p n cp) (hc:c < 4) (hm:m < 4096) (hid:id.size≤100) (hal:∀ a∈al,attrB a=true) (hl:al.length≤100) (hs:sizeN al+more < 65536) :
  Calls Tryz.prog 64 #[.agg #[.int .i64 c,.int .i64 m,.string id,mv],v,.int .i64 more] W fun e w'=>e = .returned (.string (wrB c m id al more))∧Ext W w':=by
 obtain ⟨p,cp,rfl⟩:=hv.shape
 obtain ⟨mp,mn,mc,rfl⟩:=hmv
 have hkb:=kindN_bd c m
 refine v_reads (args:=[.agg #[.int .i64 c,.int .i64 m,.string id,.slice mp mn mc],.slice p al.length cp,.int .i64 more]) TTok FFok Tryz.func64 rfl rfl ?_
 conv=>whnf
 refine VSeq.mk fun Kq hKq=>?_
 conv=>whnf
 have hp:=Hp.nil W
 refine hp.kboxA fun q w hp hx=>?_
 conv=>whnf
 refine hKq _ _ _ (.refl _) ?_
 clear hKq Kq
 conv=>whnf
 refine VSeq.mk fun Kq hKq=>?_
 conv=>whnf
 have e1:=kind8_p c m hc hm
 have e2:=put_p 2 (kindN c m) (by decide) (by omega)
 have e4:=put_p 2 (sizeN al+more) (by decide) (by omega)
 have e5:=put_p 4 554869826 (by decide) (by decide)
 refine v_mixA TTok FFok mixed [(0,false),(1,false),(2,false),(3,false),(4,false),(5,false),(6,false),(7,false),(8,false),(9,false),(10,false),(11,false),(12,false),(13,false),(14,false),(15,false),(16,false),(17,false)] (by kernel_rfl) ?_
 conv=>whnf
 refine ⟨_,fun w' hx'=>Blk.ld (off:=0) (Blk.ext (hp.get (i:=0) rfl) hx') TTok rfl rfl,?_⟩
 conv=>whnf
 refine ⟨_,fun w' hx'=>Blk.ld (off:=1) (Blk.ext (hp.get (i:=0) rfl) hx') TTok rfl rfl,?_⟩
 conv=>whnf
 first | refine PureF.quiet (e1) ?_ | refine PureF.quietE (e1) ?_
 conv=>whnf
 first | refine PureF.quiet (e2) ?_ | refine PureF.quietE (e2) ?_
 conv=>whnf
 refine ⟨_,fun w1 hx1=>(size8_c (hv.ext (hp.ext.trans hx1)) (by omega) (fun a ha=>by have:=attrB_t (hal a ha); omega)),?_⟩
 conv=>whnf
 refine Or.inl (And.intro (by omega) ?_)
 conv=>whnf
 rw [show ((sizeN al:Nat):Int)+((more:Nat):Int)=((sizeN al+more:Nat):Int) by omega]
 first | refine PureF.quiet (e4) ?_ | refine PureF.quietE (e4) ?_
 conv=>whnf
 refine And.intro (by simp only [beB_size]; omega) ?_
 conv=>whnf
 first | refine PureF.quiet (e5) ?_ | refine PureF.quietE (e5) ?_
 conv=>whnf
 refine And.intro (by simp only [ByteArray.size_append,beB_size]; omega) ?_
 conv=>whnf
 refine ⟨_,fun w' hx'=>Blk.ld (off:=2) (Blk.ext (hp.get (i:=0) rfl) hx') TTok rfl rfl,?_⟩
 conv=>whnf
 refine And.intro (by simp only [ByteArray.size_append,beB_size]; omega) ?_
 conv=>whnf
 rw [wrI_0]
 intro w hx
 try (have hp:=hp.call hx)
 conv=>whnf
 refine hKq _ _ _ (.refl _) ?_
 clear hKq Kq
 conv=>whnf
 refine VSeq.mk fun Kq hKq=>?_
 conv=>whnf
 refine VSeq.mk fun Kq hKq=>?_
 conv=>whnf
 refine hKq _ _ _ (.refl _) ?_
 clear hKq Kq
 conv=>whnf
 clear e1 e2 e4 e5
 refine ⟨fun mm e w'=>∃ (i:Nat),mm+i=al.length∧e=[(1,.v (.slice p al.length cp)),(7,.v (.string (wrI c m id (sizeN al+more) (al.take i)))),(8,.v (.int .i64 i))]∧Ext W w',
  ⟨al.length,_,⟨0,by omega,rfl,hp.ext⟩,sub_cons rfl (sub_cons rfl (sub_cons rfl sub_nil))⟩,?_⟩
 clear hp hx
 repeat clear hp
 rintro mm _ w ⟨i,hmm,rfl,hxw⟩
 have hsl:=sizeN_tk al i
 have hzi:=wrI_size c m id (sizeN al+more) (al.take i)
 conv=>whnf
 refine VSeq.mk fun Kq hKq=>?_
 conv=>whnf
 refine VSeq.mk fun Kq hKq=>?_
 conv=>whnf
 refine hKq _ _ _ (.refl _) ?_
 clear hKq Kq
 conv=>whnf
 refine ⟨fun hlt=>?_,fun hlt=>?_⟩
 ·have hlt:=of_decide_eq_true hlt
  conv=>whnf
  refine hKq _ _ _ (.refl _) ?_
  clear hKq Kq
  conv=>whnf
  refine VSeq.mk fun Kq hKq=>?_
  conv=>whnf
  obtain ⟨a,ha⟩:∃ a,al[i]? = some a:=⟨al[i]'(by omega),List.getElem?_eq_getElem (by omega)⟩
  have hab:=attrB_t (hal a (List.mem_of_getElem? ha))
  obtain ⟨g,off,rfl,-⟩:=(hv.ext hxw).at ha
  have hl0:=fun (w1:World) (h1:Ext w w1)=>SA.ld0 (hv.ext (hxw.trans h1)) ha
  have hl1:=fun (w1:World) (h1:Ext w w1)=>SA.ld1 (hv.ext (hxw.trans h1)) ha
  obtain ⟨k,s⟩:=a
  obtain ⟨k,rfl⟩:∃ n:Nat,k=(n:Int):=⟨k.toNat,(Int.toNat_of_nonneg hab.1).symm⟩
  dsimp only at hl0 hl1 hab
  have e1:=put_p 2 k (by decide) (by omega)
  have e2:=put_p 2 s.size (by decide) (by omega)
  have e3:=pad_p s (by omega)
  have hpz:=padB_size s
  refine v_mixA TTok FFok mixed [(0,false),(1,false),(2,false),(3,false),(4,false),(5,false),(6,false),(7,false),(8,false),(9,false),(10,false),(11,false),(12,false),(13,false),(14,false),(15,false),(16,false),(17,false),(18,false),(19,false),(20,false),(21,false),(22,false),(23,false)] (by kernel_rfl) ?_
  conv=>whnf
  refine ⟨i,⟨by first | rfl | omega,by show i < al.length; omega⟩,?_⟩
  conv=>whnf
  refine ⟨_,hl0,?_⟩
  conv=>whnf
  first | refine PureF.quiet (e1) ?_ | refine PureF.quietE (e1) ?_
  conv=>whnf
  refine And.intro (by simp only [beB_size]; omega) ?_
  conv=>whnf
  refine ⟨i,⟨by first | rfl | omega,by show i < al.length; omega⟩,?_⟩
  conv=>whnf
  refine ⟨_,hl1,?_⟩
  conv=>whnf
  first | refine PureF.quiet (e2) ?_ | refine PureF.quietE (e2) ?_
  conv=>whnf
  refine And.intro (by simp only [ByteArray.size_append,beB_size]; omega) ?_
  conv=>whnf
  refine ⟨i,⟨by first | rfl | omega,by show i < al.length; omega⟩,?_⟩
  conv=>whnf
  refine ⟨_,hl1,?_⟩
  conv=>whnf
  first | refine PureF.quiet (e3) ?_ | refine PureF.quietE (e3) ?_
  conv=>whnf
  refine And.intro (by simp only [ByteArray.size_append,beB_size]; omega) ?_
  conv=>whnf
  rw [wrI_app]
  intro w hx
  try (have hp:=hp.call hx)
  conv=>whnf
  refine hKq _ _ _ (.refl _) ?_
  clear hKq Kq
  conv=>whnf
  refine Or.inl (And.intro (by omega) ?_)
  conv=>whnf
  have htk:al.take (i+1)=al.take i++[((k:Int),s)]:=by rw [List.take_add_one,ha]; rfl
  rw [← htk]
  exact ⟨mm - 1,_,by omega,⟨i+1,by omega,rfl,hxw.trans hx⟩,sub_cons rfl (sub_cons rfl (sub_cons rfl sub_nil))⟩
 ·have hlt:=of_decide_eq_false hlt
  conv=>whnf
  clear hKq Kq
  refine hKq _ _ _ (.refl _) ?_
  clear hKq Kq
  conv=>whnf
  refine VSeq.mk fun Kq hKq=>?_
  conv=>whnf
  refine hKq _ _ _ (.refl _) ?_
  clear hKq Kq
  conv=>whnf
  obtain rfl:i=al.length:=by omega
  rw [List.take_of_length_le (Nat.le_refl _)]
  conv=>whnf
  exact ⟨rfl,hxw⟩
set_option maxHeartbeats 6400000
def idC:ByteArray:=⟨#[0,1,2,3,4,5,6,7,8,9,10,11]⟩
theorem chapter_p:PureF Tryz.prog 55 #[] (.agg #[.int .i64 0,.int .i64 1,.string idC,.slice none 0 0]):=by
 first | refine v_pure TTok FFok Tryz.func55 rfl rfl fun w0=>?_ | refine v_pure (args:=[]) TTok FFok Tryz.func55 rfl rfl fun w0=>?_
 conv=>whnf
 refine VSeq.mk fun Kq hKq=>?_
 conv=>whnf
 have hp:=Hp.nil w0
 (refine hp.kalloc z24 fun al24 w hp hx=>?_; conv=>whnf)
 (refine hKq _ _ _ (.refl _) ?_; clear hKq Kq; conv=>whnf)
 (refine VSeq.mk fun Kq hKq=>?_; conv=>whnf)
 (refine ⟨_,_,bld24_1_2 _ _ _,?_⟩; conv=>whnf)
 (refine hp.kstA TTok rfl 0 rfl rfl (oneC_of rfl) (by rfl) fun w hp=>?_; try simp only [List.set_cons_zero,List.set_cons_succ,EV.val] at hp; conv=>whnf)
 (refine hKq _ _ _ (.refl _) ?_; clear hKq Kq; conv=>whnf)
 (refine ⟨_,Blk.lvN (hp.get (i:=0) rfl) TTok rfl rfl,?_⟩; conv=>whnf)
 exact ⟨rfl,hp.ext⟩
theorem is_c {M:List Nat} {w0 w:World} {H:List It} (hp:HpM M w0 w H) (s:ByteArray) :
  Calls Tryz.prog 61 #[.string s] w fun e w'=>∃ v,e = .returned v∧∃ b,v = .func (.func 111) #[] #[.pointer (some ⟨b,0,none⟩)]∧HpM M w0 w' (blk b [.string s] 9 :: H)∧Ext w w':=by
 refine v_fn (args:=[.string s]) TTok FFok (f:=61) rfl rfl (Nat.le_of_ble_eq_true rfl) ?_
 conv=>whnf
 refine VSeq.mk fun Kq hKq=>?_
 conv=>whnf
 refine hp.kbox [.string s] rfl fun b w1 hp hx1=>?_
 conv=>whnf
 refine hKq _ _ _ (.refl _) ?_
 clear hKq Kq
 conv=>whnf
 refine VSeq.mk fun Kq hKq=>?_
 conv=>whnf
 refine hKq _ _ _ (.refl _) ?_
 clear hKq Kq
 conv=>whnf
 exact ⟨b,rfl,hp,hx1⟩
theorem fails_c {M:List Nat} {w0 w:World} {H:List It} (hp:HpM M w0 w H) (n:Int) :
  Calls Tryz.prog 58 #[.int .i64 n] w fun e w'=>∃ v,e = .returned v∧∃ b,v = .func (.func 109) #[] #[.pointer (some ⟨b,0,none⟩)]∧HpM M w0 w' (blk b [.int .i64 n] 36 :: H)∧Ext w w':=by
 refine v_fn (args:=[.int .i64 n]) TTok FFok (f:=58) rfl rfl (Nat.le_of_ble_eq_true rfl) ?_
 conv=>whnf
 refine VSeq.mk fun Kq hKq=>?_
 conv=>whnf
 refine hp.kbox [.int .i64 n] rfl fun b w1 hp hx1=>?_
 conv=>whnf
 refine hKq _ _ _ (.refl _) ?_
 clear hKq Kq
 conv=>whnf
 refine VSeq.mk fun Kq hKq=>?_
 conv=>whnf
 refine hKq _ _ _ (.refl _) ?_
 clear hKq Kq
 conv=>whnf
 exact ⟨b,rfl,hp,hx1⟩
theorem refuses_c {M:List Nat} {w0 w:World} {H:List It} (hp:HpM M w0 w H) (n:Int) :
  Calls Tryz.prog 46 #[.int .i64 n] w fun e w'=>∃ v,e = .returned v∧∃ b,v = .func (.func 98) #[] #[.pointer (some ⟨b,0,none⟩)]∧HpM M w0 w' (blk b [.int .i64 n] 36 :: H)∧Ext w w':=by
 refine v_fn (args:=[.int .i64 n]) TTok FFok (f:=46) rfl rfl (Nat.le_of_ble_eq_true rfl) ?_
 conv=>whnf
 refine VSeq.mk fun Kq hKq=>?_
 conv=>whnf
 refine hp.kbox [.int .i64 n] rfl fun b w1 hp hx1=>?_
 conv=>whnf
 refine hKq _ _ _ (.refl _) ?_
 clear hKq Kq
 conv=>whnf
 refine VSeq.mk fun Kq hKq=>?_
 conv=>whnf
 refine hKq _ _ _ (.refl _) ?_
 clear hKq Kq
 conv=>whnf
 exact ⟨b,rfl,hp,hx1⟩
theorem fails_in {w:World} {b:Nat} {n:Int} (hb:Blk w b [.int .i64 n] 36) :
  Calls Tryz.prog 109 #[.string ⟨#[]⟩,.int .i64 n,.pointer (some ⟨b,0,none⟩)] w fun e w'=>e = .returned (.bool true)∧Ext w w':=by
 refine v_reads TTok FFok Tryz.func109 rfl rfl ?_
 conv=>whnf
 refine VSeq.mk fun Kq hKq=>?_
 conv=>whnf
 refine hKq _ _ _ (.refl _) ?_
 clear hKq Kq
 conv=>whnf
 refine VSeq.mk fun Kq hKq=>?_
 conv=>whnf
 refine VSeq.mk fun Kq hKq=>?_
 conv=>whnf
 refine hKq _ _ _ (.refl _) ?_
 clear hKq Kq
 conv=>whnf
 refine And.intro (fun _=>?_) (fun h=>absurd (rfl) (of_decide_eq_false h))
 conv=>whnf
 refine ⟨_,_,Blk.ld (hb) TTok rfl (rfl),?_⟩
 conv=>whnf
 refine hKq _ _ _ (.refl _) ?_
 clear hKq Kq
 conv=>whnf
 refine ⟨?_,Ext.refl _⟩
 exact congrArg Value.bool (decide_eq_true rfl)
theorem is_in {w:World} {b:Nat} {s:ByteArray} (x:ByteArray) (hx:(⟨(hexL x.data.toList).toArray⟩:ByteArray)=s) (hs:x.size≤100) (hb:Blk w b [.string s] 9) :
  Calls Tryz.prog 111 #[.string x,.int .i64 0,.pointer (some ⟨b,0,none⟩)] w fun e w'=>e = .returned (.bool true)∧Ext w w':=by
 have hh:=Hex_p x (by omega)
 rw [hx] at hh
 refine v_reads TTok FFok Tryz.func111 rfl rfl ?_
 conv=>whnf
 refine VSeq.mk fun Kq hKq=>?_
 conv=>whnf
 refine hKq _ _ _ (.refl _) ?_
 clear hKq Kq
 conv=>whnf
 refine VSeq.mk fun Kq hKq=>?_
 conv=>whnf
 have hp:=Hp.nil w
 refine v_mixA TTok FFok mixed [(0,false),(1,false),(2,false),(3,false),(4,false),(5,false),(6,false),(7,false),(8,false)] (by kernel_rfl) ?_
 conv=>whnf
 refine And.intro (fun _=>?_) (fun h=>absurd (rfl) (of_decide_eq_false h))
 conv=>whnf
 first | refine PureF.quiet (hh) ?_ | refine PureF.quietE (hh) ?_
 conv=>whnf
 refine ⟨_,fun w' hx'=>Blk.ld (Blk.ext (hb) hx') TTok rfl (rfl),?_⟩
 conv=>whnf
 intro w hx
 try (have hp:=hp.call hx)
 conv=>whnf
 refine hKq _ _ _ (.refl _) ?_
 clear hKq Kq
 conv=>whnf
 refine ⟨?_,hp.ext⟩
 exact congrArg Value.bool (decide_eq_true rfl)
theorem SA.nil8 {w:World}:SA w (.slice none 0 0) []:=.inl ⟨rfl,rfl⟩
theorem refuses_in {W:World} {b:Nat} {n:Int} (hb:Blk W b [.int .i64 n] 36) :
  Calls Tryz.prog 98 #[zStun,.int .i64 n,.pointer (some ⟨b,0,none⟩)] W fun e w'=>e = .returned (.bool true)∧Ext W w':=by
 have hs:=fun (w:World)=>Same8_c (W:=w) 0 0 ⟨#[]⟩ 0 0 ⟨#[]⟩ SA.nil8 SA.nil8 (fun a ha=>by cases ha) (fun a ha=>by cases ha)
 rw [sameB_t ⟨rfl,rfl,rfl,rfl⟩] at hs
 refine v_reads TTok FFok Tryz.func98 rfl rfl ?_
 conv=>whnf
 refine VSeq.mk fun Kq hKq=>?_
 conv=>whnf
 have hp:=Hp.nil W
 refine hp.kboxA fun q w hp hx=>?_
 conv=>whnf
 refine hKq _ _ _ (.refl _) ?_
 clear hKq Kq
 conv=>whnf
 refine VSeq.mk fun Kq hKq=>?_
 conv=>whnf
 refine VSeq.mk fun Kq hKq=>?_
 conv=>whnf
 refine ⟨_,_,Blk.ld (hb.ext hp.ext) TTok rfl (rfl),?_⟩
 conv=>whnf
 refine hKq _ _ _ (.refl _) ?_
 clear hKq Kq
 conv=>whnf
 refine And.intro (fun _=>?_) (fun h=>absurd (rfl) (of_decide_eq_false h))
 conv=>whnf
 (refine ⟨_,_,Blk.ldV (vs:=[_,_,_,_]) (hp.get (i:=0) rfl) TTok rfl rfl rfl,?_⟩; conv=>whnf)
 (refine ⟨_,_,bld24_ _,?_⟩; conv=>whnf)
 refine V.CallsUse (hs _) fun w hx=>?_
 try (have hp:=hp.call hx)
 conv=>whnf
 refine hKq _ _ _ (.refl _) ?_
 clear hKq Kq
 conv=>whnf
 exact ⟨rfl,hp.ext⟩
theorem with8_c {W:World} {v u:Value} {al bl:List At2} (c m:Int) (id:ByteArray) (hv:SA W v al) (hu:SA W u bl) (hl:al.length≤100000) (hk:bl.length≤100000) :
  Calls Tryz.prog 47 #[.agg #[.int .i64 c,.int .i64 m,.string id,v],u] W fun e w'=>∃ r,e = .returned r∧∃ v',r = .agg #[.int .i64 c,.int .i64 m,.string id,v']∧HpM [] W w' [row 54 2 v' (al++bl).length (flatC (al++bl))]:=by
 obtain ⟨p,cp,rfl⟩:=hv.shape
 obtain ⟨p2,cp2,rfl⟩:=hu.shape
 refine v_fn (args:=[.agg #[.int .i64 c,.int .i64 m,.string id,.slice p al.length cp],.slice p2 bl.length cp2]) TTok FFok Tryz.func47 rfl (Nat.le_of_ble_eq_true rfl) ?_
 conv=>whnf
 refine VSeq.mk fun Kq hKq=>?_
 conv=>whnf
 have hp:=Hp.nil W
 refine hp.kboxA fun q w hp hx=>?_
 conv=>whnf
 refine hp.kalloc z24 fun q4 w hp hx=>?_
 conv=>whnf
 refine hKq _ _ _ (.refl _) ?_
 clear hKq Kq
 conv=>whnf
 refine VSeq.mk fun Kq hKq=>?_
 conv=>whnf
 refine hp.kmadeR [] 54 2 0 rfl (by decide) (by kernel_rfl) fun b w hp hx=>?_
 conv=>whnf
 refine ⟨_,_,Blk.ld (hp.get (i:=2) rfl) TTok rfl (rfl),?_⟩
 conv=>whnf
 refine hp.kappE sl22 ((hv.ext hp.ext).src) (by omega) (by unfold maxLen; omega) fun v' w hp hx=>?_
 rw [Nat.zero_add,List.nil_append] at hp
 obtain ⟨p1,c1,rfl⟩:=row_shape (hp.get (i:=0) rfl)
 conv=>whnf
 refine hp.kapp sl22 0 rfl ((hu.ext hp.ext).src) (by omega) (by unfold maxLen; omega) fun v2 w hp=>?_
 simp only [List.set_cons_zero,List.set_cons_succ] at hp
 rw [← flatC_app,← List.length_append] at hp
 obtain ⟨p1,c1,rfl⟩:=row_shape (hp.get (i:=0) rfl)
 conv=>whnf
 (refine hp.kst1 TTok (by rfl) 2 (by rfl) (by rfl) (by rfl) (Nat.le_of_ble_eq_true rfl) fun w hp=>?_; try simp only [List.set_cons_zero,List.set_cons_succ,EV.val] at hp; conv=>whnf)
 (refine hKq _ _ _ (.refl _) ?_; clear hKq Kq; conv=>whnf)
 (refine VSeq.mk fun Kq hKq=>?_; conv=>whnf)
 (refine ⟨_,_,Blk.ldV (vs:=[_,_,_,_]) (hp.get (i:=2) rfl) TTok rfl rfl rfl,?_⟩; conv=>whnf)
 (refine hp.kstA TTok rfl 1 rfl rfl (oneC_of rfl) (by rfl) fun w hp=>?_; try simp only [List.set_cons_zero,List.set_cons_succ,EV.val] at hp; conv=>whnf)
 (refine hKq _ _ _ (.refl _) ?_; clear hKq Kq; conv=>whnf)
 (refine ⟨_,Blk.lvN (hp.get (i:=1) rfl) TTok rfl rfl,?_⟩; conv=>whnf)
 exact ⟨_,rfl,hp.sub (List.Sublist.cons_cons _ (List.nil_sublist _))⟩
set_option maxHeartbeats 12800000
/-- a piece of a draft: which, kind, value -/
abbrev Pc3:Type:=Nat × Nat × ByteArray
def pcC (p:Pc3):List Value:=[.int .u8 p.1,.int .u16 p.2.1,.string p.2.2]
def PcOk (p:Pc3):Prop:=p.1 < 256∧p.2.1 < 65536∧p.2.2.size≤maxLen
def SPc (w:World) (v:Value) (l:List Pc3):Prop:=SLn w 3 v (l.map pcC)
theorem SPc.shape {w:World} {v:Value} {l:List Pc3} (h:SPc w v l):∃ p c,v = .slice p l.length c:=by
 obtain ⟨p,c,e⟩:=SLn.shape h
 rw [List.length_map] at e
 exact ⟨p,c,e⟩
theorem SPc.at {w:World} {p:Option Addr} {n c:Nat} {l:List Pc3} (h:SPc w (.slice p n c) l) {j:Nat} {a:Pc3} (hj:l[j]? = some a) :
  ∃ g off,p=some ⟨g,off,none⟩∧(Instr.loadAt 99 (.pointer (some ⟨g,addM off j 3,none⟩))).run Tryz.prog w = .ok (.agg #[.int .u8 a.1,.int .u16 a.2.1,.string a.2.2]) w:=by
 obtain ⟨g,off,e,_,hc⟩:=SLn.cells h (j:=j) (x:=pcC a) (by rw [List.getElem?_map,hj]; rfl)
 exact ⟨g,off,e,run_ldN TTok rfl (vs:=pcC a) rfl fun i y hy=>hc i y hy⟩
def kn20:List Value:=[.int .i64 1,.int .i64 6,.int .i64 8,.int .i64 9,.int .i64 10,.int .i64 12,.int .i64 13,.int .i64 18,.int .i64 19,.int .i64 20,.int .i64 21,.int .i64 22,.int .i64 25,.int .i64 32,.int .i64 36,.int .i64 37,.int .i64 32809,.int .i64 32810,.int .i64 32808,.int .i64 5]
theorem kn20_get (i:Nat) (h:i < 20):∃ n:Nat,n≤65535∧kn20[i]? = some (.int .i64 n):=by
 have:i=0∨i=1∨i=2∨i=3∨i=4∨i=5∨i=6∨i=7∨i=8∨i=9∨i=10∨i=11∨i=12∨i=13∨i=14∨i=15∨i=16∨i=17∨i=18∨i=19:=by omega
 rcases this with rfl | rfl | rfl | rfl | rfl | rfl | rfl | rfl | rfl | rfl | rfl | rfl | rfl | rfl | rfl | rfl | rfl | rfl | rfl | rfl
 ·exact ⟨1,by decide,rfl⟩
 ·exact ⟨6,by decide,rfl⟩
 ·exact ⟨8,by decide,rfl⟩
 ·exact ⟨9,by decide,rfl⟩
 ·exact ⟨10,by decide,rfl⟩
 ·exact ⟨12,by decide,rfl⟩
 ·exact ⟨13,by decide,rfl⟩
 ·exact ⟨18,by decide,rfl⟩
 ·exact ⟨19,by decide,rfl⟩
 ·exact ⟨20,by decide,rfl⟩
 ·exact ⟨21,by decide,rfl⟩
 ·exact ⟨22,by decide,rfl⟩
 ·exact ⟨25,by decide,rfl⟩
 ·exact ⟨32,by decide,rfl⟩
 ·exact ⟨36,by decide,rfl⟩
 ·exact ⟨37,by decide,rfl⟩
 ·exact ⟨32809,by decide,rfl⟩
 ·exact ⟨32810,by decide,rfl⟩
 ·exact ⟨32808,by decide,rfl⟩
 ·exact ⟨5,by decide,rfl⟩
/-- what is known of a drafted message -/
structure DrOk (c m:Nat) (id:ByteArray) (al:List At2):Prop where
 c:c < 4
 m:m < 4096
 id:id.size=12
 len:al.length≤6
 each:∀ a∈al,0≤a.1∧a.1≤65535∧a.2.size≤60
theorem sizeN_le60:∀ l:List At2,(∀ a∈l,a.2.size≤60)→sizeN l≤l.length * 64
 | [],_=>Nat.zero_le _
 | a :: l,h=>by
  have h1:=h a List.mem_cons_self
  have h2:=sizeN_le60 l fun b hb=>h b (List.mem_cons_of_mem _ hb)
  rw [sizeN,List.length_cons]
  unfold atN
  omega
theorem DrOk.stun {c m:Nat} {id:ByteArray} {al:List At2} (h:DrOk c m id al):stunB c m id al=true:=by
 have:=sizeN_le60 al fun a ha=>(h.each a ha).2.2
 have h1:=h.c
 have h2:=h.m
 have h3:=h.len
 refine stunB_of (by omega) (by omega) (by omega) (by omega) h.id (by omega) (fun a ha=>?_) (by omega)
 have:=h.each a ha
 unfold attrB
 simp only [Bool.and_eq_true,decide_eq_true_eq]
 omega
theorem message_c {W:World} {v:Value} {ps:List Pc3} (c8 m16:Nat) (id0:ByteArray) (hv:SPc W v ps) (hps:∀ p∈ps,PcOk p) (hc8:c8 < 256) (hm16:m16 < 65536) (hid:id0.size≤maxLen) :
  Calls Tryz.prog 27 #[.agg #[.int .u8 c8,.int .u16 m16,.string id0,v]] W fun e w'=>∃ r,e = .returned r∧∃ (c m:Nat) (id:ByteArray) (al:List At2) (u:Value),r = .agg #[.int .i64 c,.int .i64 m,.string id,u]∧DrOk c m id al∧HpM [] W w' [row 54 2 u al.length (flatC al)]:=by
 obtain ⟨p,cp,rfl⟩:=hv.shape
 have hml:ps.length≤maxLen:=by have:=SLn.len hv; rwa [List.length_map] at this
 refine v_fn (args:=[.agg #[.int .u8 c8,.int .u16 m16,.string id0,.slice p ps.length cp]]) TTok FFok Tryz.func27 rfl (Nat.le_of_ble_eq_true rfl) ?_
 conv=>whnf
 refine VSeq.mk fun Kq hKq=>?_
 conv=>whnf
 have hp:=Hp.nil W
 refine hp.kboxA fun q1 w hp hx=>?_
 conv=>whnf
 refine hp.kalloc z24 fun b2 w hp hx=>?_
 conv=>whnf
 refine hKq _ _ _ (.refl _) ?_
 clear hKq Kq
 conv=>whnf
 refine VSeq.mk fun Kq hKq=>?_
 conv=>whnf
 (refine ⟨_,_,Blk.ld (hp.get (i:=1) rfl) TTok rfl rfl,?_⟩; conv=>whnf)
 (refine And.intro (by first | omega | decide) ?_; conv=>whnf)
 (refine Or.inl (And.intro (by first | omega | decide) ?_); conv=>whnf)
 (refine ⟨_,_,Blk.ld (hp.get (i:=1) rfl) TTok rfl rfl,?_⟩; conv=>whnf)
 (refine And.intro (by first | omega | decide) ?_; conv=>whnf)
 (refine Or.inl (And.intro (by first | omega | decide) ?_); conv=>whnf)
 (refine ⟨_,_,bld24_0_1 _ _ _,?_⟩; conv=>whnf)
 (refine hp.kalloc z24 fun al24 w hp hx=>?_; conv=>whnf)
 (refine hp.kstA TTok rfl 0 rfl rfl (oneC_of rfl) (by rfl) fun w hp=>?_; try simp only [List.set_cons_zero,List.set_cons_succ,EV.val] at hp; conv=>whnf)
 (refine hKq _ _ _ (.refl _) ?_; clear hKq Kq; conv=>whnf)
 (refine VSeq.mk fun Kq hKq=>?_; conv=>whnf)
 (refine VSeq.mk fun Kq hKq=>?_; conv=>whnf)
 (refine ⟨_,_,Blk.ld (hp.get (i:=2) rfl) TTok rfl rfl,?_⟩; conv=>whnf)
 (refine hKq _ _ _ (.refl _) ?_; clear hKq Kq; conv=>whnf)
 obtain ⟨b3,rfl⟩:∃ q,q=al24:=⟨al24,rfl⟩
 have key:∀ (m:Nat) (l:Env) (w:World),m < 4096→V.Sub [(1,.v (.pointer (some ⟨q1,0,none⟩))),(2,.v (.pointer (some ⟨b2,0,none⟩))),(3,.v (.pointer (some ⟨b3,0,none⟩)))] l→HpM [] W w [blk b3 [.int .i64 (c8 % 4:Nat),.int .i64 m,.string ⟨#[]⟩,.slice none 0 0] 24,blk b2 [.int .i64 0,.int .i64 0,.string ⟨#[]⟩,.slice none 0 0] 24,blk q1 [.int .u8 c8,.int .u16 m16,.string id0,.slice p ps.length cp] 28]→Kq l w:=by
  intro m l w hm hs hp
  refine hKq _ _ _ hs ?_
  clear hKq Kq hs
  conv=>whnf
  conv=>whnf
  refine VSeq.mk fun Kq hKq=>?_
  conv=>whnf
  refine hp.kmkS sl88 z5 12 (by decide) (by unfold maxLen; decide) fun b w hp hx=>?_
  conv=>whnf
  refine hKq _ _ _ (.refl _) ?_
  clear hKq Kq
  conv=>whnf
  refine VSeq.mk fun Kq hKq=>?_
  conv=>whnf
  (refine ⟨_,_,Blk.ld (hp.get (i:=3) rfl) TTok rfl rfl,?_⟩; conv=>whnf)
  refine hp.kcopyS sl88 0 rfl id0 (bytesV (id0.data.toList.take 12)) rfl (by rw [bytesV_len,List.length_take,List.length_replicate]; omega) fun w hp=>?_
  simp only [List.set_cons_zero] at hp
  obtain ⟨L,hL,hLe⟩:∃ L:List UInt8,L.length=12∧bytesV (List.take 12 id0.data.toList)++List.drop (bytesV (List.take 12 id0.data.toList)).length (List.replicate 12 (Value.int .u8 0))=bytesV L:=by
   refine ⟨id0.data.toList.take 12++List.replicate (12 - (id0.data.toList.take 12).length) 0,?_,?_⟩
   ·rw [List.length_append,List.length_replicate,List.length_take]; omega
   ·rw [List.drop_replicate,bytesV_len,bytesV_app,bytesV_rep]
  rw [hLe] at hp
  clear hLe
  conv=>whnf
  refine hKq _ _ _ (.refl _) ?_
  clear hKq Kq
  conv=>whnf
  refine VSeq.mk fun Kq hKq=>?_
  conv=>whnf
  refine ⟨_,_,Blk.str (l:=L) (hp.get (i:=0) rfl) TTok rfl rfl rfl rfl hL,?_⟩
  conv=>whnf
  (refine hp.kst1 TTok (by rfl) 1 (by rfl) (by rfl) (by rfl) (Nat.le_of_ble_eq_true rfl) fun w hp=>?_; try simp only [List.set_cons_zero,List.set_cons_succ,EV.val] at hp; conv=>whnf)
  (refine hKq _ _ _ (.refl _) ?_; clear hKq Kq; conv=>whnf)
  (refine VSeq.mk fun Kq hKq=>?_; conv=>whnf)
  (refine ⟨_,_,bld141_0_1_2_3_4_5_6_7_8_9_10_11_12_13_14_15_16_17_18_19 _ _ _ _ _ _ _ _ _ _ _ _ _ _ _ _ _ _ _ _ _,?_⟩; conv=>whnf)
  (refine hp.kalloc z141 fun al141 w hp hx=>?_; conv=>whnf)
  (refine hp.kstA TTok rfl 0 rfl rfl (oneC_of rfl) (by rfl) fun w hp=>?_; try simp only [List.set_cons_zero,List.set_cons_succ,EV.val] at hp; conv=>whnf)
  (refine hKq _ _ _ (.refl _) ?_; clear hKq Kq; conv=>whnf)
  (refine VSeq.mk fun Kq hKq=>?_; conv=>whnf)
  (refine VSeq.mk fun Kq hKq=>?_; conv=>whnf)
  (refine hKq _ _ _ (.refl _) ?_; clear hKq Kq; conv=>whnf)
  obtain ⟨b5,rfl⟩:∃ q,q=al141:=⟨al141,rfl⟩
  have hp:=hp.pick [0,2,3,4] (by decide)
  obtain ⟨id,hide⟩:∃ s:ByteArray,s=⟨L.toArray⟩:=⟨_,rfl⟩
  have zid:id.size=12:=by rw [hide,bA_size,hL]
  have hp:HpM [] W w [blk b5 kn20 141,blk b3 [.int .i64 (c8 % 4:Nat),.int .i64 m,.string id,.slice none 0 0] 24,blk b2 [.int .i64 0,.int .i64 0,.string ⟨#[]⟩,.slice none 0 0] 24,blk q1 [.int .u8 c8,.int .u16 m16,.string id0,.slice p ps.length cp] 28]:=by rw [hide]; exact hp
  clear hide hL
  have hc4:c8 % 4 < 4:=Nat.mod_lt _ (by decide)
  generalize c8 % 4=c at *
  have hp:=hp.knil 54 2
  refine ⟨fun mm e w'=>∃ (i:Nat) (al:List At2) (u:Value),mm+i=6∧al.length=i∧(∀ a∈al,0≤a.1∧a.1≤65535∧a.2.size≤60)∧e=[(1,.v (.pointer (some ⟨q1,0,none⟩))),(2,.v (.pointer (some ⟨b2,0,none⟩))),(3,.v (.pointer (some ⟨b3,0,none⟩))),(5,.v (.pointer (some ⟨b5,0,none⟩))),(6,.v (.int .i64 i))]∧HpM [] W w' [row 54 2 u al.length (flatC al),blk b5 kn20 141,blk b3 [.int .i64 c,.int .i64 m,.string id,u] 24,blk b2 [.int .i64 0,.int .i64 0,.string ⟨#[]⟩,.slice none 0 0] 24,blk q1 [.int .u8 c8,.int .u16 m16,.string id0,.slice p ps.length cp] 28],
   ⟨6,_,⟨0,[],_,by omega,rfl,(fun a ha=>by cases ha),rfl,hp⟩,sub_cons rfl (sub_cons rfl (sub_cons rfl (sub_cons rfl (sub_cons rfl sub_nil))))⟩,?_⟩
  clear hp hx
  repeat clear hp
  rintro mm _ w ⟨i,al,u,hmm,hal,hbd,rfl,hp⟩
  obtain ⟨pu,cu,rfl⟩:=row_shape (hp.get (i:=0) rfl)
  by_cases hi:i < ps.length∧i < 6
  ·obtain ⟨pc,hpc⟩:∃ a,ps[i]? = some a:=⟨ps[i]'(by omega),List.getElem?_eq_getElem (by omega)⟩
   have hok:=hps pc (List.mem_of_getElem? hpc)
   obtain ⟨g,off,rfl,hld⟩:=SPc.at (SLn.ext hv hp.ext) hpc
   obtain ⟨wh,kd,s⟩:=pc
   obtain ⟨k1,k2,k3⟩:=hok
   dsimp only at hld k1 k2 k3
   unfold maxLen at k3
   have zs:=size_extract s 0 (min s.size 60) (by omega)
   obtain ⟨n,hn,hg⟩:=kn20_get (wh / 3 % 20) (Nat.mod_lt _ (by decide))
   (refine VSeq.mk fun Kq hKq=>?_; conv=>whnf)
   (refine VSeq.mk fun Kq hKq=>?_; conv=>whnf)
   (refine VSeq.mk fun Kq hKq=>?_; conv=>whnf)
   (refine ⟨_,_,Blk.ld (hp.get (i:=4) rfl) TTok rfl rfl,?_⟩; conv=>whnf)
   (refine hKq _ _ _ (.refl _) ?_; clear hKq Kq; conv=>whnf)
   (refine And.intro (fun _=>?_) (fun h=>absurd (by first | rfl | assumption | omega | decide) (of_decide_eq_false h)); conv=>whnf)
   (refine hKq _ _ _ (.refl _) ?_; clear hKq Kq; conv=>whnf)
   (refine And.intro (fun _=>?_) (fun h=>absurd (by first | rfl | assumption | omega | decide) (of_decide_eq_false h)); conv=>whnf)
   (refine hKq _ _ _ (.refl _) ?_; clear hKq Kq; conv=>whnf)
   (refine VSeq.mk fun Kq hKq=>?_; conv=>whnf)
   (refine VSeq.mk fun Kq hKq=>?_; conv=>whnf)
   (refine ⟨_,_,Blk.ld (hp.get (i:=4) rfl) TTok rfl rfl,?_⟩; conv=>whnf)
   (refine ⟨_,⟨rfl,by omega⟩,?_⟩; conv=>whnf)
   refine ⟨_,_,hld,?_⟩
   conv=>whnf
   (refine hp.kalloc z99 fun al99 w hp hx=>?_; conv=>whnf)
   (refine hp.kstA TTok rfl 0 rfl rfl (oneC_of rfl) (by rfl) fun w hp=>?_; try simp only [List.set_cons_zero,List.set_cons_succ,EV.val] at hp; conv=>whnf)
   (refine hKq _ _ _ (.refl _) ?_; clear hKq Kq; conv=>whnf)
   (refine VSeq.mk fun Kq hKq=>?_; conv=>whnf)
   have hpO:=hp
   clear hp
   repeat clear hp
   have hp:=Hp.nil w
   have h7:Blk w al99 [.int .u8 wh,.int .u16 kd,.string s] 99:=hpO.get (i:=0) rfl
   refine v_mtB TTok FFok mixed [] (.q 0 (.q 1 (.q 2 (.q 3 (.q 4 (.q 5 (.q 6 (.q 7 (.q 8 (.q 9 (.q 10 (.m 11 (.m 12 .nil))))))))))))) (by kernel_rfl) ?_
   conv=>whnf
   (refine ⟨_,fun w' hx'=>Blk.ld (Blk.ext h7 (hp.ext.trans hx')) TTok rfl rfl,?_⟩; conv=>whnf)
   (refine Or.inl (And.intro (by first | omega | decide) ?_); conv=>whnf)
   (refine ⟨_,fun w' hx'=>Blk.ld (Blk.ext h7 (hp.ext.trans hx')) TTok rfl rfl,?_⟩; conv=>whnf)
   (refine ⟨_,fun w' hx'=>Blk.ld (Blk.ext h7 (hp.ext.trans hx')) TTok rfl rfl,?_⟩; conv=>whnf)
   refine ⟨min s.size 60,⟨by omega,by omega⟩,?_⟩
   conv=>whnf
   (refine ⟨_,fun w' hx'=>bld54_0_1 w' _ _,?_⟩; conv=>whnf)
   (intro w hx; try (have hp:=hp.call hx); conv=>whnf)
   (refine hp.kalloc z54 fun al54 w hp hx=>?_; conv=>whnf)
   ((with_reducible show (Ext _ _→Ext _ _)∧_); refine And.intro (fun _=>hp.ext) ?_; conv=>whnf)
   (intro w hx; try (have hp:=hp.call hx); conv=>whnf)
   (refine hp.kstA TTok rfl 0 rfl rfl (oneC_of rfl) (by rfl) fun w hp=>?_; try simp only [List.set_cons_zero,List.set_cons_succ,EV.val] at hp; conv=>whnf)
   ((with_reducible show (Ext _ _→Ext _ _)∧_); refine And.intro (fun _=>hp.ext) ?_; conv=>whnf)
   (intro w hx; try (have hp:=hp.call hx); conv=>whnf)
   (refine hKq _ _ _ (.refl _) ?_; clear hKq Kq; conv=>whnf)
   (refine VSeq.mk fun Kq hKq=>?_; conv=>whnf)
   (refine VSeq.mk fun Kq hKq=>?_; conv=>whnf)
   have hp:=hpO.join hp
   simp only [List.cons_append,List.nil_append] at hp
   clear hpO h7
   generalize s.extract 0 (min s.size 60)=t at *
   have zt:t.size≤60:=by omega
   have htk:flatC al++[.int .i64 kd,.string t]=flatC (al++[((kd:Int),t)]):=by rw [flatC_app]; rfl
   have htn:flatC al++[.int .i64 n,.string t]=flatC (al++[((n:Int),t)]):=by rw [flatC_app]; rfl
   (refine ⟨_,_,Blk.ld (hp.get (i:=1) rfl) TTok rfl rfl,?_⟩; conv=>whnf)
   (refine And.intro (by first | omega | decide) ?_; conv=>whnf)
   (refine hKq _ _ _ (.refl _) ?_; clear hKq Kq; conv=>whnf)
   refine ⟨fun hq=>?_,fun hq=>?_⟩
   ·have hq:=of_decide_eq_true hq
    conv=>whnf
    conv=>whnf
    (refine ⟨_,_,Blk.ld (hp.get (i:=1) rfl) TTok rfl rfl,?_⟩; conv=>whnf)
    (refine And.intro (by first | omega | decide) ?_; conv=>whnf)
    (refine Or.inl (And.intro (by first | omega | decide) ?_); conv=>whnf)
    (refine And.intro (by first | omega | decide) ?_; conv=>whnf)
    refine ⟨wh / 3 % 20,⟨by omega,by omega⟩,?_⟩
    conv=>whnf
    refine ⟨_,_,Blk.ld (hp.get (i:=3) rfl) TTok rfl (hg),?_⟩
    conv=>whnf
    (refine hp.kst1 TTok (by rfl) 0 (by rfl) (by rfl) (by rfl) (Nat.le_of_ble_eq_true rfl) fun w hp=>?_; try simp only [List.set_cons_zero,List.set_cons_succ,EV.val] at hp; conv=>whnf)
    (refine hKq _ _ _ (.refl _) ?_; clear hKq Kq; conv=>whnf)
    (refine ⟨_,_,Blk.ld (hp.get (i:=4) rfl) TTok rfl rfl,?_⟩; conv=>whnf)
    (refine ⟨_,_,Blk.ldV (vs:=[_,_]) (hp.get (i:=0) rfl) TTok rfl rfl rfl,?_⟩; conv=>whnf)
    (refine hp.kmade _ _ (fun b=>.slice (some ⟨b,0,none⟩) 1 1) (mks22_1_0 _ _ _) fun q w hp hx=>?_; conv=>whnf)
    refine hp.kapp sl22 3 rfl (Blk.src TTok (hp.get (i:=0) rfl) rfl (m:=1) rfl (oneC_of rfl)) (by omega) (by unfold maxLen; omega) fun v' w hp=>?_
    simp only [List.set_cons_zero,List.set_cons_succ] at hp
    rw [htn] at hp
    obtain ⟨p1,c1,rfl⟩:=row_shape (hp.get (i:=3) rfl)
    conv=>whnf
    (refine hp.kst1 TTok (by rfl) 5 (by rfl) (by rfl) (by rfl) (Nat.le_of_ble_eq_true rfl) fun w hp=>?_; try simp only [List.set_cons_zero,List.set_cons_succ,EV.val] at hp; conv=>whnf)
    (refine hKq _ _ _ (.refl _) ?_; clear hKq Kq; conv=>whnf)
    (refine Or.inl (And.intro (by first | omega | decide) ?_); conv=>whnf)
    refine ⟨mm - 1,_,by omega,⟨i+1,al++[((n:Int),t)],_,by omega,by rw [List.length_append,hal]; rfl,fun a ha=>?_,rfl,by rw [List.length_append]; exact hp.pick [3,4,5,6,7] (by decide)⟩,sub_cons rfl (sub_cons rfl (sub_cons rfl (sub_cons rfl (sub_cons rfl sub_nil))))⟩
    rcases List.mem_append.1 ha with h | h
    ·exact hbd a h
    ·rw [List.mem_singleton] at h
     subst h
     exact ⟨by show 0≤(n:Int); omega,by show (n:Int)≤65535; omega,zt⟩
   ·have hq:=of_decide_eq_false hq
    conv=>whnf
    refine hKq _ _ _ (.refl _) ?_
    clear hKq Kq
    conv=>whnf
    conv=>whnf
    (refine ⟨_,_,Blk.ld (hp.get (i:=4) rfl) TTok rfl rfl,?_⟩; conv=>whnf)
    (refine ⟨_,_,Blk.ldV (vs:=[_,_]) (hp.get (i:=0) rfl) TTok rfl rfl rfl,?_⟩; conv=>whnf)
    (refine hp.kmade _ _ (fun b=>.slice (some ⟨b,0,none⟩) 1 1) (mks22_1_0 _ _ _) fun q w hp hx=>?_; conv=>whnf)
    refine hp.kapp sl22 3 rfl (Blk.src TTok (hp.get (i:=0) rfl) rfl (m:=1) rfl (oneC_of rfl)) (by omega) (by unfold maxLen; omega) fun v' w hp=>?_
    simp only [List.set_cons_zero,List.set_cons_succ] at hp
    rw [htk] at hp
    obtain ⟨p1,c1,rfl⟩:=row_shape (hp.get (i:=3) rfl)
    conv=>whnf
    (refine hp.kst1 TTok (by rfl) 5 (by rfl) (by rfl) (by rfl) (Nat.le_of_ble_eq_true rfl) fun w hp=>?_; try simp only [List.set_cons_zero,List.set_cons_succ,EV.val] at hp; conv=>whnf)
    (refine hKq _ _ _ (.refl _) ?_; clear hKq Kq; conv=>whnf)
    (refine Or.inl (And.intro (by first | omega | decide) ?_); conv=>whnf)
    refine ⟨mm - 1,_,by omega,⟨i+1,al++[((kd:Int),t)],_,by omega,by rw [List.length_append,hal]; rfl,fun a ha=>?_,rfl,by rw [List.length_append]; exact hp.pick [3,4,5,6,7] (by decide)⟩,sub_cons rfl (sub_cons rfl (sub_cons rfl (sub_cons rfl (sub_cons rfl sub_nil))))⟩
    rcases List.mem_append.1 ha with h | h
    ·exact hbd a h
    ·rw [List.mem_singleton] at h
     subst h
     exact ⟨by show 0≤(kd:Int); omega,by show (kd:Int)≤65535; omega,zt⟩
  ·by_cases h6:i < ps.length
   ·have h66:¬ i < 6:=fun h=>hi ⟨h6,h⟩
    (refine VSeq.mk fun Kq hKq=>?_; conv=>whnf)
    (refine VSeq.mk fun Kq hKq=>?_; conv=>whnf)
    (refine VSeq.mk fun Kq hKq=>?_; conv=>whnf)
    (refine ⟨_,_,Blk.ld (hp.get (i:=4) rfl) TTok rfl rfl,?_⟩; conv=>whnf)
    (refine hKq _ _ _ (.refl _) ?_; clear hKq Kq; conv=>whnf)
    (refine And.intro (fun _=>?_) (fun h=>absurd (by first | rfl | assumption | omega | decide) (of_decide_eq_false h)); conv=>whnf)
    (refine hKq _ _ _ (.refl _) ?_; clear hKq Kq; conv=>whnf)
    (refine And.intro (fun h=>absurd (of_decide_eq_true h) (by first | (intro h2; exact absurd rfl h2) | omega | decide)) (fun _=>?_); conv=>whnf)
    (clear hKq Kq; refine hKq _ _ _ (.refl _) ?_; clear hKq Kq; conv=>whnf)
    (refine VSeq.mk fun Kq hKq=>?_; conv=>whnf)
    (refine ⟨_,_,Blk.ldV (vs:=[_,_,_,_]) (hp.get (i:=2) rfl) TTok rfl rfl rfl,?_⟩; conv=>whnf)
    (refine hp.kstA TTok rfl 3 rfl rfl (oneC_of rfl) (by rfl) fun w hp=>?_; try simp only [List.set_cons_zero,List.set_cons_succ,EV.val] at hp; conv=>whnf)
    (refine hKq _ _ _ (.refl _) ?_; clear hKq Kq; conv=>whnf)
    (refine ⟨_,Blk.lvN (hp.get (i:=3) rfl) TTok rfl rfl,?_⟩; conv=>whnf)
    exact ⟨c,m,id,al,_,rfl,⟨hc4,hm,zid,by omega,hbd⟩,hp.sub (List.Sublist.cons_cons _ (List.nil_sublist _))⟩
   ·(refine VSeq.mk fun Kq hKq=>?_; conv=>whnf)
    (refine VSeq.mk fun Kq hKq=>?_; conv=>whnf)
    (refine VSeq.mk fun Kq hKq=>?_; conv=>whnf)
    (refine ⟨_,_,Blk.ld (hp.get (i:=4) rfl) TTok rfl rfl,?_⟩; conv=>whnf)
    (refine hKq _ _ _ (.refl _) ?_; clear hKq Kq; conv=>whnf)
    (refine And.intro (fun h=>absurd (of_decide_eq_true h) (by first | (intro h2; exact absurd rfl h2) | omega | decide)) (fun _=>?_); conv=>whnf)
    (refine hKq _ _ _ (.refl _) ?_; clear hKq Kq; conv=>whnf)
    (clear hKq Kq; refine hKq _ _ _ (.refl _) ?_; clear hKq Kq; conv=>whnf)
    (refine VSeq.mk fun Kq hKq=>?_; conv=>whnf)
    (refine ⟨_,_,Blk.ldV (vs:=[_,_,_,_]) (hp.get (i:=2) rfl) TTok rfl rfl rfl,?_⟩; conv=>whnf)
    (refine hp.kstA TTok rfl 3 rfl rfl (oneC_of rfl) (by rfl) fun w hp=>?_; try simp only [List.set_cons_zero,List.set_cons_succ,EV.val] at hp; conv=>whnf)
    (refine hKq _ _ _ (.refl _) ?_; clear hKq Kq; conv=>whnf)
    (refine ⟨_,Blk.lvN (hp.get (i:=3) rfl) TTok rfl rfl,?_⟩; conv=>whnf)
    exact ⟨c,m,id,al,_,rfl,⟨hc4,hm,zid,by omega,hbd⟩,hp.sub (List.Sublist.cons_cons _ (List.nil_sublist _))⟩
 have e4:((c8:Int) % 4)=((c8 % 4:Nat):Int):=by omega
 have em:((m16:Int) % 4096)=((m16 % 4096:Nat):Int):=by omega
 have e9:(1:Int)+(m16:Int) % 9=((1+m16 % 9:Nat):Int):=by omega
 clear hKq
 rw [e4] at hp
 refine ⟨fun h4=>?_,fun h4=>?_⟩
 ·have h4:=of_decide_eq_true h4
  conv=>whnf
  conv=>whnf
  (refine ⟨_,_,Blk.ld (hp.get (i:=2) rfl) TTok rfl rfl,?_⟩; conv=>whnf)
  (refine And.intro (by first | omega | decide) ?_; conv=>whnf)
  (refine Or.inl (And.intro (by first | omega | decide) ?_); conv=>whnf)
  (refine Or.inl (And.intro (by first | omega | decide) ?_); conv=>whnf)
  (refine hp.kst1 TTok (by rfl) 0 (by rfl) (by rfl) (by rfl) (Nat.le_of_ble_eq_true rfl) fun w hp=>?_; try simp only [List.set_cons_zero,List.set_cons_succ,EV.val] at hp; conv=>whnf)
  rw [e9] at hp
  exact key _ _ _ (by omega) (sub_cons rfl (sub_cons rfl (sub_cons rfl sub_nil))) hp
 ·rw [em] at hp
  exact key _ _ _ (by omega) (sub_cons rfl (sub_cons rfl (sub_cons rfl sub_nil))) hp
set_option maxHeartbeats 25600000
theorem SLn_hi8 {P:Program} {T:Tab} (hT:tabOk P T=true) {t el n1 sz:Nat} {kd:TK} (ht:tfind T t=some ⟨.slice el,n1⟩) (he:tfind T el=some ⟨kd,sz⟩) {w:World} {v:Value} {xs:List (List Value)} (h:SLn w sz v xs) (b:Nat) (hb:b≤xs.length) :
  ∃ v',(∀ (k:IntKind) (w':World),(Instr.sliceAt t v none (some (.int k (b:Int))) none).run P w' = .ok v' w')∧SLn w sz v' (xs.take b):=by
 have key:∀ a c,v = .slice a 0 c→xs=[]→∃ v',(∀ (k:IntKind) (w':World),(Instr.sliceAt t v none (some (.int k (b:Int))) none).run P w' = .ok v' w')∧SLn w sz v' (xs.take b):=by
  rintro a c rfl rfl
  have:b=0:=by simpa using hb
  subst this
  refine ⟨.slice a 0 c,fun k w'=>?_,.inr (.inl ⟨_,_,rfl,rfl⟩)⟩
  simp only [Instr.sliceAt,Instr.slice,Instr.sliceBounds,Sem.run_bind,Sem.run_pure,V.run_underlying (tab_slice hT ht),Result.andThen]
  rw [run_bound (P:=P) (Nat.zero_le _)]
  simp only [Result.andThen,Sem.run_pure,tab_size hT he]
  cases a <;> simp [Addr.add]
 rcases h with ⟨rfl,rfl⟩ | ⟨a,c,rfl,rfl⟩ | ⟨g,off,c,rfl,hl,hm,hc⟩
 ·exact key _ _ rfl rfl
 ·exact key _ _ rfl rfl
 ·refine ⟨_,fun k w'=>run_slice_hi hT ht he b (by omega),?_⟩
  have hl:(xs.take b).length=b:=by rw [List.length_take]; omega
  exact .inr (.inr ⟨g,off,c,by rw [hl],by omega,hm,fun j x hj=>hc j x (by
   rw [List.getElem?_take] at hj; split at hj
   ·exact hj
   ·cases hj)⟩)
def cutA (a:At2):At2:=(a.1,a.2.extract 0 (min a.2.size 800))
def cutL (al:List At2):List At2:=(al.take 32).map cutA
theorem cut_c {W:World} {v:Value} {al:List At2} (c m:Int) (id:ByteArray) (hv:SA W v al) (hid:id.size≤maxLen) (hal:∀ a∈al,AtOk a) :
  Calls Tryz.prog 62 #[.agg #[.int .i64 c,.int .i64 m,.string id,v]] W fun e w'=>∃ r,e = .returned r∧∃ u,r = .agg #[.int .i64 c,.int .i64 m,.string (id.extract 0 (min id.size 20)),u]∧HpM [] W w' [row 54 2 u (cutL al).length (flatC (cutL al))]:=by
 have hml:=hv.len
 obtain ⟨t,hsl,ht⟩:=SLn_hi8 TTok (t:=22) rfl rfl hv (min al.length 32) (by rw [List.length_map]; omega)
 rw [← List.map_take] at ht
 have ht:SA W t (al.take (min al.length 32)):=ht
 have htk:al.take (min al.length 32)=al.take 32:=by
  by_cases h:al.length≤32
  ·rw [Nat.min_eq_left h,List.take_of_length_le (Nat.le_refl _),List.take_of_length_le h]
  ·rw [Nat.min_eq_right (by omega)]
 rw [htk] at ht
 have hl32:(al.take 32).length≤32:=by rw [List.length_take]; omega
 have hb:∀ a∈al.take 32,AtOk a:=fun a ha=>hal a (List.mem_of_mem_take ha)
 have hlen:(cutL al).length=(al.take 32).length:=by unfold cutL; rw [List.length_map]
 have hC:cutL al=(al.take 32).map cutA:=rfl
 obtain ⟨p,cp,rfl⟩:=hv.shape
 rw [hC]
 generalize al.take 32=bl at *
 obtain ⟨pt,ct,rfl⟩:=ht.shape
 unfold maxLen at hid
 refine v_fn (args:=[.agg #[.int .i64 c,.int .i64 m,.string id,.slice p al.length cp]]) TTok FFok Tryz.func62 rfl (Nat.le_of_ble_eq_true rfl) ?_
 conv=>whnf
 refine VSeq.mk fun Kq hKq=>?_
 conv=>whnf
 have hp:=Hp.nil W
 refine hp.kboxA fun q1 w hp hx=>?_
 conv=>whnf
 refine hp.kalloc z24 fun b2 w hp hx=>?_
 conv=>whnf
 refine hKq _ _ _ (.refl _) ?_
 clear hKq Kq
 conv=>whnf
 refine VSeq.mk fun Kq hKq=>?_
 conv=>whnf
 have hpO:=hp
 clear hp
 repeat clear hp
 have hp:=Hp.nil w
 have h1:Blk w q1 [.int .i64 c,.int .i64 m,.string id,.slice p al.length cp] 24:=hpO.get (i:=1) rfl
 refine v_mtB TTok FFok mixed [] (.q 0 (.q 1 (.q 2 (.q 3 (.q 4 (.q 5 (.q 6 (.q 7 (.q 8 (.q 9 (.q 10 (.q 11 (.m 12 (.m 13 .nil)))))))))))))) (by kernel_rfl) ?_
 conv=>whnf
 (refine ⟨_,fun w' hx'=>Blk.ld (Blk.ext h1 (hp.ext.trans hx')) TTok rfl rfl,?_⟩; conv=>whnf)
 (refine ⟨_,fun w' hx'=>Blk.ld (Blk.ext h1 (hp.ext.trans hx')) TTok rfl rfl,?_⟩; conv=>whnf)
 (refine ⟨_,fun w' hx'=>Blk.ld (Blk.ext h1 (hp.ext.trans hx')) TTok rfl rfl,?_⟩; conv=>whnf)
 (refine ⟨_,fun w' hx'=>Blk.ld (Blk.ext h1 (hp.ext.trans hx')) TTok rfl rfl,?_⟩; conv=>whnf)
 refine ⟨min id.size 20,⟨by omega,by omega⟩,?_⟩
 conv=>whnf
 (refine ⟨_,fun w' hx'=>bld24_0_1_2 w' _ _ _,?_⟩; conv=>whnf)
 (intro w hx; try (have hp:=hp.call hx); conv=>whnf)
 (refine hp.kalloc z24 fun al24 w hp hx=>?_; conv=>whnf)
 ((with_reducible show (Ext _ _→Ext _ _)∧_); refine And.intro (fun _=>hp.ext) ?_; conv=>whnf)
 (intro w hx; try (have hp:=hp.call hx); conv=>whnf)
 (refine hp.kstA TTok rfl 0 rfl rfl (oneC_of rfl) (by rfl) fun w hp=>?_; try simp only [List.set_cons_zero,List.set_cons_succ,EV.val] at hp; conv=>whnf)
 ((with_reducible show (Ext _ _→Ext _ _)∧_); refine And.intro (fun _=>hp.ext) ?_; conv=>whnf)
 (intro w hx; try (have hp:=hp.call hx); conv=>whnf)
 (refine hKq _ _ _ (.refl _) ?_; clear hKq Kq; conv=>whnf)
 (refine VSeq.mk fun Kq hKq=>?_; conv=>whnf)
 (refine VSeq.mk fun Kq hKq=>?_; conv=>whnf)
 have hp:=hpO.join hp
 simp only [List.cons_append,List.nil_append] at hp
 clear hpO h1
 generalize id.extract 0 (min id.size 20)=id2 at *
 obtain ⟨b3,rfl⟩:∃ q,q=al24:=⟨al24,rfl⟩
 (refine ⟨_,_,Blk.ld (hp.get (i:=2) rfl) TTok rfl rfl,?_⟩; conv=>whnf)
 (refine ⟨_,_,Blk.ld (hp.get (i:=2) rfl) TTok rfl rfl,?_⟩; conv=>whnf)
 rw [show min (al.length:Int) 32=((min al.length 32:Nat):Int) by omega]
 refine ⟨_,_,hsl _ _,?_⟩
 conv=>whnf
 refine hKq _ _ _ (.refl _) ?_
 clear hKq Kq
 conv=>whnf
 have hp:=hp.pick [0,1] (by decide)
 simp only [List.filterMap_cons,List.filterMap_nil,List.getElem?_cons_zero,List.getElem?_cons_succ] at hp
 have hp:=hp.knil 54 2
 refine ⟨fun mm e w'=>∃ (i:Nat) (u:Value),mm+i=bl.length∧e=[(2,.v (.pointer (some ⟨b2,0,none⟩))),(3,.v (.pointer (some ⟨b3,0,none⟩))),(24,.v (.slice pt bl.length ct)),(25,.v (.int .i64 bl.length)),(26,.v (.int .i64 i))]∧HpM [] W w' [row 54 2 u ((bl.take i).map cutA).length (flatC ((bl.take i).map cutA)),blk b3 [.int .i64 c,.int .i64 m,.string id2,u] 24,blk b2 [.int .i64 0,.int .i64 0,.string ⟨#[]⟩,.slice none 0 0] 24],
  ⟨bl.length,_,⟨0,_,by omega,rfl,hp⟩,sub_cons rfl (sub_cons rfl (sub_cons rfl (sub_cons rfl (sub_cons rfl sub_nil))))⟩,?_⟩
 clear hp hx
 repeat clear hp
 rintro mm _ w ⟨i,u,hmm,rfl,hp⟩
 obtain ⟨pu,cu,rfl⟩:=row_shape (hp.get (i:=0) rfl)
 conv=>whnf
 refine VSeq.mk fun Kq hKq=>?_
 conv=>whnf
 refine hKq _ _ _ (.refl _) ?_
 clear hKq Kq
 conv=>whnf
 refine VSeq.mk fun Kq hKq=>?_
 conv=>whnf
 refine ⟨fun hlt=>?_,fun hlt=>?_⟩
 ·have hlt:=of_decide_eq_true hlt
  conv=>whnf
  refine hKq _ _ _ (.refl _) ?_
  clear hKq Kq
  conv=>whnf
  refine VSeq.mk fun Kq hKq=>?_
  conv=>whnf
  refine VSeq.mk fun Kq hKq=>?_
  conv=>whnf
  obtain ⟨a,hai⟩:∃ a,bl[i]? = some a:=⟨bl[i]'(by omega),List.getElem?_eq_getElem (by omega)⟩
  have hao:=(hb a (List.mem_of_getElem? hai)).2
  obtain ⟨g,off,he,hld⟩:=(ht.ext hp.ext).at hai
  obtain rfl:=he
  have hst:(bl.take (i+1)).map cutA=(bl.take i).map cutA++[cutA a]:=by rw [List.take_add_one,hai,List.map_append]; rfl
  have hll:((bl.take i).map cutA).length≤32:=by rw [List.length_map,List.length_take]; omega
  obtain ⟨k,s⟩:=a
  have hfc:flatC ((bl.take i).map cutA)++[.int .i64 k,.string (s.extract 0 (min s.size 800))]=flatC ((bl.take i).map cutA++[cutA (k,s)]):=by rw [flatC_app]; rfl
  generalize (bl.take i).map cutA=fl at *
  dsimp only at hld hao
  unfold maxLen at hao
  refine ⟨i,⟨by first | rfl | omega,by show i < bl.length; omega⟩,?_⟩
  conv=>whnf
  refine ⟨_,_,hld,?_⟩
  conv=>whnf
  refine hp.kalloc z54 fun a5 w hp hx=>?_
  conv=>whnf
  (refine hp.kstA TTok rfl 0 rfl rfl (oneC_of rfl) (by rfl) fun w hp=>?_; try simp only [List.set_cons_zero,List.set_cons_succ,EV.val] at hp; conv=>whnf)
  (refine hKq _ _ _ (.refl _) ?_; clear hKq Kq; conv=>whnf)
  refine v_mix TTok FFok mixed 13 [(0,false),(1,false),(2,false),(3,false),(4,false),(5,false),(6,false),(7,false),(8,false),(9,false),(10,false),(11,false),(12,true)] (by kernel_rfl) ?_
  conv=>whnf
  (refine ⟨_,fun w' hx'=>Blk.ld (Blk.ext (hp.get (i:=2) rfl) hx') TTok rfl rfl,?_⟩; conv=>whnf)
  (refine ⟨_,fun w' hx'=>Blk.ld (Blk.ext (hp.get (i:=0) rfl) hx') TTok rfl rfl,?_⟩; conv=>whnf)
  (refine ⟨_,fun w' hx'=>Blk.ld (Blk.ext (hp.get (i:=0) rfl) hx') TTok rfl rfl,?_⟩; conv=>whnf)
  (refine ⟨_,fun w' hx'=>Blk.ld (Blk.ext (hp.get (i:=0) rfl) hx') TTok rfl rfl,?_⟩; conv=>whnf)
  refine ⟨min s.size 800,⟨by omega,by omega⟩,?_⟩
  conv=>whnf
  (refine ⟨_,fun w' hx'=>bld54_0_1 w' _ _,?_⟩; conv=>whnf)
  (intro w hx; try (have hp:=hp.call hx); conv=>whnf)
  (refine hp.kmade _ _ (fun b=>.slice (some ⟨b,0,none⟩) 1 1) (mks22_1_0 _ _ _) fun q w hp hx=>?_; conv=>whnf)
  (with_reducible refine And.intro hx ?_; conv=>whnf)
  (intro w hx; try (have hp:=hp.call hx); conv=>whnf)
  refine hp.kapp sl22 2 rfl (Blk.src TTok (hp.get (i:=0) rfl) rfl (m:=1) rfl (oneC_of rfl)) (by omega) (by unfold maxLen; omega) fun v' w hp=>?_
  simp only [List.set_cons_zero,List.set_cons_succ] at hp
  rw [hfc] at hp
  obtain ⟨p1,c1,rfl⟩:=row_shape (hp.get (i:=2) rfl)
  conv=>whnf
  (refine hp.kst1 TTok (by rfl) 3 (by rfl) (by rfl) (by rfl) (Nat.le_of_ble_eq_true rfl) fun w hp=>?_; try simp only [List.set_cons_zero,List.set_cons_succ,EV.val] at hp; conv=>whnf)
  (refine hKq _ _ _ (.refl _) ?_; clear hKq Kq; conv=>whnf)
  (refine Or.inl (And.intro (by first | omega | decide) ?_); conv=>whnf)
  exact ⟨mm - 1,_,by omega,⟨i+1,_,by omega,rfl,by rw [hst,List.length_append]; exact hp.pick [2,3,4] (by decide)⟩,sub_cons rfl (sub_cons rfl (sub_cons rfl (sub_cons rfl (sub_cons rfl sub_nil))))⟩
 ·have hlt:=of_decide_eq_false hlt
  conv=>whnf
  clear hKq Kq
  refine hKq _ _ _ (.refl _) ?_
  clear hKq Kq
  conv=>whnf
  refine VSeq.mk fun Kq hKq=>?_
  conv=>whnf
  obtain rfl:i=bl.length:=by omega
  rw [List.take_of_length_le (Nat.le_refl _)] at hp
  (refine ⟨_,_,Blk.ldV (vs:=[_,_,_,_]) (hp.get (i:=1) rfl) TTok rfl rfl rfl,?_⟩; conv=>whnf)
  (refine hp.kstA TTok rfl 2 rfl rfl (oneC_of rfl) (by rfl) fun w hp=>?_; try simp only [List.set_cons_zero,List.set_cons_succ,EV.val] at hp; conv=>whnf)
  (refine hKq _ _ _ (.refl _) ?_; clear hKq Kq; conv=>whnf)
  (refine ⟨_,Blk.lvN (hp.get (i:=2) rfl) TTok rfl rfl,?_⟩; conv=>whnf)
  exact ⟨_,rfl,hp.sub (List.Sublist.cons_cons _ (List.nil_sublist _))⟩
set_option maxHeartbeats 51200000
theorem set_flat:∀ (al:List At2) (zs:List Value) (k:Nat) (a:At2) (n:Int),al[k]? = some a→(flatC al++zs).set (k * 2) (.int .i64 n)=flatC (al.set k (n,a.2))++zs
 | [],_,_,_,_,h=>by simp at h
 | b :: l,zs,0,a,n,h=>by
  obtain rfl:b=a:=by simpa using h
  rfl
 | b :: l,zs,k+1,a,n,h=>by
  have ih:=set_flat l zs k a n (by simpa using h)
  rw [List.set_cons_succ]
  have e:∀ x:At2,∀ m:List At2,flatC (x :: m)++zs = .int .i64 x.1 :: .string x.2 :: (flatC m++zs):=fun _ _=>rfl
  rw [e,e,show (k+1) * 2=k * 2+1+1 by omega,List.set_cons_succ,List.set_cons_succ,ih]
theorem set_flat1:∀ (al:List At2) (zs:List Value) (k:Nat) (a:At2) (s:ByteArray),al[k]? = some a→(flatC al++zs).set (k * 2+1) (.string s)=flatC (al.set k (a.1,s))++zs
 | [],_,_,_,_,h=>by simp at h
 | b :: l,zs,0,a,s,h=>by
  obtain rfl:b=a:=by simpa using h
  rfl
 | b :: l,zs,k+1,a,s,h=>by
  have ih:=set_flat1 l zs k a s (by simpa using h)
  rw [List.set_cons_succ]
  have e:∀ x:At2,∀ m:List At2,flatC (x :: m)++zs = .int .i64 x.1 :: .string x.2 :: (flatC m++zs):=fun _ _=>rfl
  rw [e,e,show (k+1) * 2+1=k * 2+1+1+1 by omega,List.set_cons_succ,List.set_cons_succ,ih]
theorem SA.of_blkz {w:World} {g e n c:Nat} {al:List At2} {zs:List Value} (h:Blk w g (flatC al++zs) e) (hn:al.length=n) (hc:n≤c) (hm:c≤maxLen):SA w (.slice (some ⟨g,0,none⟩) n c) al:=by
 subst hn
 refine .inr (.inr ⟨g,0,c,by rw [List.length_map],by rw [List.length_map]; exact hc,hm,fun j x hj=>?_⟩)
 rw [List.getElem?_map,Option.map_eq_some_iff] at hj
 obtain ⟨a,ha,rfl⟩:=hj
 refine ⟨rfl,fun i y hy=>?_⟩
 have hi:i < 2:=(List.getElem?_eq_some_iff.1 hy).1
 have h2:=flatC_at al j a ha
 have h3:(flatC al)[j * 2+i]? = some y:=by
  rw [← h2,List.getElem?_take,if_pos hi,List.getElem?_drop] at hy
  exact hy
 have h4:(flatC al++zs)[j * 2+i]? = some y:=by rw [List.getElem?_append_left (List.getElem?_eq_some_iff.1 h3).1]; exact h3
 rw [Nat.zero_add]
 exact (h.cell (j * 2+i)).trans h4
theorem SA.cap {w:World} {g n c:Nat} {al:List At2} (h:SA w (.slice (some ⟨g,0,none⟩) n c) al) (hn:0 < al.length):al.length≤c∧c≤maxLen:=by
 rcases h with ⟨hv,h⟩ | ⟨_,_,hv,h⟩ | ⟨g',off',c',hv,h1,h2,h3⟩
 ·rw [List.map_eq_nil_iff.1 h] at hn; simp at hn
 ·rw [List.map_eq_nil_iff.1 h] at hn; simp at hn
 ·simp only [Value.slice.injEq] at hv
  obtain ⟨-,-,rfl⟩:=hv
  rw [List.length_map] at h1
  exact ⟨h1,h2⟩
theorem fresh_row {W w:World} {H:List It} (hp:HpM [] W w H) {i e sz n c:Nat} {p:Option Addr} {xs:List Value} (hi:H[i]? = some (row e sz (.slice p n c) n xs)):∀ g off,p=some ⟨g,off,none⟩→W.heap.size≤g:=by
 rintro g off rfl
 rcases (hp.lo _ (List.mem_of_getElem? hi) g rfl).1 with h | h
 ·cases h
 ·exact h
theorem fresh_blk {W w:World} {H:List It} (hp:HpM [] W w H) {i e b:Nat} {cs:List Value} (hi:H[i]? = some (blk b cs e)):∀ g off,(some ⟨b,0,none⟩:Option Addr)=some ⟨g,off,none⟩→W.heap.size≤g:=by
 rintro g off h
 simp only [Option.some.injEq,Addr.mk.injEq] at h
 obtain ⟨rfl,-⟩:=h
 rcases (hp.lo _ (List.mem_of_getElem? hi) b rfl).1 with h | h
 ·cases h
 ·exact h
/-- what is known of a bent message -/
structure BdOk (n:Nat) (id:ByteArray) (al:List At2):Prop where
 id:id.size≤maxLen
 len:al.length≤n+31
 each:∀ a∈al,AtOk a
theorem bend_c {W:World} {v:Value} {al:List At2} (wh at_:Nat) (N:Int) (S:ByteArray) (c m:Int) (id:ByteArray) (hwh:wh < 256) (hat:at_ < 256) (hN:in8 N) (hS:S.size≤maxLen) (hid:id.size≤maxLen) (hv:SA W v al) (hal:∀ a∈al,AtOk a) (hl:al.length≤10000) :
  Calls Tryz.prog 52 #[.agg #[.int .u8 wh,.int .u8 at_,.int .i64 N,.string S],.agg #[.int .i64 c,.int .i64 m,.string id,v]] W fun e w'=>∃ r,e = .returned r∧∃ (c' m':Int) (id':ByteArray) (al':List At2) (p:Option Addr) (cp:Nat),r = .agg #[.int .i64 c',.int .i64 m',.string id',.slice p al'.length cp]∧BdOk al.length id' al'∧SA w' (.slice p al'.length cp) al'∧Ext W w'∧∀ g off,p=some ⟨g,off,none⟩→W.heap.size≤g:=by
 obtain ⟨p,cp,rfl⟩:=hv.shape
 unfold maxLen at hS
 have zS:=size_extract S 0 (min S.size 40) (by omega)
 refine v_fn (args:=[.agg #[.int .u8 wh,.int .u8 at_,.int .i64 N,.string S],.agg #[.int .i64 c,.int .i64 m,.string id,.slice p al.length cp]]) TTok FFok Tryz.func52 rfl (Nat.le_of_ble_eq_true rfl) ?_
 conv=>whnf
 refine VSeq.mk fun Kq hKq=>?_
 conv=>whnf
 have hp:=Hp.nil W
 refine hp.kboxA fun q2 w hp hx=>?_
 conv=>whnf
 refine hp.kboxA fun q3 w hp hx=>?_
 conv=>whnf
 refine hp.kalloc z24 fun b4 w hp hx=>?_
 conv=>whnf
 refine hKq _ _ _ (.refl _) ?_
 clear hKq Kq
 conv=>whnf
 refine VSeq.mk fun Kq hKq=>?_
 conv=>whnf
 refine hKq _ _ _ (.refl _) ?_
 clear hKq Kq
 conv=>whnf
 refine VSeq.mk fun Kq hKq=>?_
 conv=>whnf
 have hp:=hp.knil 54 2
 (refine ⟨_,_,Blk.ld (hp.get (i:=2) rfl) TTok rfl rfl,?_⟩; conv=>whnf)
 refine hp.kapp sl22 0 rfl ((hv.ext hp.ext).src) (by omega) (by unfold maxLen; omega) fun v' w hp=>?_
 simp only [List.set_cons_zero,List.set_cons_succ] at hp
 rw [Nat.zero_add,List.nil_append] at hp
 obtain ⟨pu,cu,rfl⟩:=row_shape (hp.get (i:=0) rfl)
 conv=>whnf
 (refine hp.kst1 TTok (by rfl) 2 (by rfl) (by rfl) (by rfl) (Nat.le_of_ble_eq_true rfl) fun w hp=>?_; try simp only [List.set_cons_zero,List.set_cons_succ,EV.val] at hp; conv=>whnf)
 (refine hKq _ _ _ (.refl _) ?_; clear hKq Kq; conv=>whnf)
 (refine VSeq.mk fun Kq hKq=>?_; conv=>whnf)
 (refine ⟨_,_,Blk.ld (hp.get (i:=3) rfl) TTok rfl rfl,?_⟩; conv=>whnf)
 (refine ⟨_,_,Blk.ld (hp.get (i:=3) rfl) TTok rfl rfl,?_⟩; conv=>whnf)
 refine ⟨min S.size 40,⟨by omega,by omega⟩,?_⟩
 conv=>whnf
 refine hKq _ _ _ (.refl _) ?_
 clear hKq Kq
 conv=>whnf
 refine VSeq.mk fun Kq hKq=>?_
 conv=>whnf
 refine VSeq.mk fun Kq hKq=>?_
 conv=>whnf
 (refine ⟨_,_,Blk.ld (hp.get (i:=3) rfl) TTok rfl rfl,?_⟩; conv=>whnf)
 (refine And.intro (by first | omega | decide) ?_; conv=>whnf)
 (refine hKq _ _ _ (.refl _) ?_; clear hKq Kq; conv=>whnf)
 (refine VSeq.mk fun Kq hKq=>?_; conv=>whnf)
 (refine hKq _ _ _ (.refl _) ?_; clear hKq Kq; conv=>whnf)
 generalize S.extract 0 (min S.size 40)=T at *
 have hp:HpM [] W w [row 54 2 (.slice pu al.length cu) al.length (flatC al),blk b4 [.int .i64 0,.int .i64 0,.string ⟨#[]⟩,.slice none 0 0] 24,blk q3 [.int .i64 c,.int .i64 m,.string id,.slice pu al.length cu] 24,blk q2 [.int .u8 wh,.int .u8 at_,.int .i64 N,.string S] 30]:=hp
 have zT:T.size≤maxLen:=by unfold maxLen; omega
 have tT:∀ {k:Int},in8 k→AtOk (k,T):=fun h=>⟨h,zT⟩
 clear zS hx
 have h8:wh % 8=0∨wh % 8=1∨wh % 8=2∨wh % 8=3∨wh % 8=4∨wh % 8=5∨wh % 8=6∨wh % 8=7:=by omega
 rcases h8 with h8 | h8 | h8 | h8 | h8 | h8 | h8 | h8
 ·(refine And.intro (fun _=>?_) (fun h=>absurd (by first | rfl | assumption | omega | decide) (of_decide_eq_false h)); conv=>whnf)
  (refine ⟨_,_,Blk.ld (hp.get (i:=3) rfl) TTok rfl rfl,?_⟩; conv=>whnf)
  (refine hp.kst1 TTok (by rfl) 2 (by rfl) (by rfl) (by rfl) (Nat.le_of_ble_eq_true rfl) fun w hp=>?_; try simp only [List.set_cons_zero,List.set_cons_succ,EV.val] at hp; conv=>whnf)
  (refine hKq _ _ _ (.refl _) ?_; clear hKq Kq; conv=>whnf)
  (refine VSeq.mk fun Kq hKq=>?_; conv=>whnf)
  (refine ⟨_,_,Blk.ldV (vs:=[_,_,_,_]) (hp.get (i:=2) rfl) TTok rfl rfl rfl,?_⟩; conv=>whnf)
  (refine hp.kstA TTok rfl 1 rfl rfl (oneC_of rfl) (by rfl) fun w hp=>?_; try simp only [List.set_cons_zero,List.set_cons_succ,EV.val] at hp; conv=>whnf)
  (refine hKq _ _ _ (.refl _) ?_; clear hKq Kq; conv=>whnf)
  (refine ⟨_,Blk.lvN (hp.get (i:=1) rfl) TTok rfl rfl,?_⟩; conv=>whnf)
  exact ⟨N,m,id,al,_,_,rfl,⟨hid,by omega,hal⟩,SA.of_row (hp.get (i:=0) rfl),hp.ext,fresh_row hp (i:=0) rfl⟩
 ·(refine And.intro (fun h=>absurd (of_decide_eq_true h) (by first | (intro h2; exact absurd rfl h2) | omega | decide)) (fun _=>?_); conv=>whnf)
  (refine VSeq.mk fun Kq hKq=>?_; conv=>whnf)
  (refine hKq _ _ _ (.refl _) ?_; clear hKq Kq; conv=>whnf)
  (refine And.intro (fun _=>?_) (fun h=>absurd (by first | rfl | assumption | omega | decide) (of_decide_eq_false h)); conv=>whnf)
  (refine ⟨_,_,Blk.ld (hp.get (i:=3) rfl) TTok rfl rfl,?_⟩; conv=>whnf)
  (refine hp.kst1 TTok (by rfl) 2 (by rfl) (by rfl) (by rfl) (Nat.le_of_ble_eq_true rfl) fun w hp=>?_; try simp only [List.set_cons_zero,List.set_cons_succ,EV.val] at hp; conv=>whnf)
  (refine hKq _ _ _ (.refl _) ?_; clear hKq Kq; conv=>whnf)
  (refine VSeq.mk fun Kq hKq=>?_; conv=>whnf)
  (refine ⟨_,_,Blk.ldV (vs:=[_,_,_,_]) (hp.get (i:=2) rfl) TTok rfl rfl rfl,?_⟩; conv=>whnf)
  (refine hp.kstA TTok rfl 1 rfl rfl (oneC_of rfl) (by rfl) fun w hp=>?_; try simp only [List.set_cons_zero,List.set_cons_succ,EV.val] at hp; conv=>whnf)
  (refine hKq _ _ _ (.refl _) ?_; clear hKq Kq; conv=>whnf)
  (refine ⟨_,Blk.lvN (hp.get (i:=1) rfl) TTok rfl rfl,?_⟩; conv=>whnf)
  exact ⟨c,N,id,al,_,_,rfl,⟨hid,by omega,hal⟩,SA.of_row (hp.get (i:=0) rfl),hp.ext,fresh_row hp (i:=0) rfl⟩
 ·(refine And.intro (fun h=>absurd (of_decide_eq_true h) (by first | (intro h2; exact absurd rfl h2) | omega | decide)) (fun _=>?_); conv=>whnf)
  (refine VSeq.mk fun Kq hKq=>?_; conv=>whnf)
  (refine hKq _ _ _ (.refl _) ?_; clear hKq Kq; conv=>whnf)
  (refine And.intro (fun h=>absurd (of_decide_eq_true h) (by first | (intro h2; exact absurd rfl h2) | omega | decide)) (fun _=>?_); conv=>whnf)
  (refine VSeq.mk fun Kq hKq=>?_; conv=>whnf)
  (refine hKq _ _ _ (.refl _) ?_; clear hKq Kq; conv=>whnf)
  (refine And.intro (fun _=>?_) (fun h=>absurd (by first | rfl | assumption | omega | decide) (of_decide_eq_false h)); conv=>whnf)
  (refine hp.kst1 TTok (by rfl) 2 (by rfl) (by rfl) (by rfl) (Nat.le_of_ble_eq_true rfl) fun w hp=>?_; try simp only [List.set_cons_zero,List.set_cons_succ,EV.val] at hp; conv=>whnf)
  (refine hKq _ _ _ (.refl _) ?_; clear hKq Kq; conv=>whnf)
  (refine VSeq.mk fun Kq hKq=>?_; conv=>whnf)
  (refine ⟨_,_,Blk.ldV (vs:=[_,_,_,_]) (hp.get (i:=2) rfl) TTok rfl rfl rfl,?_⟩; conv=>whnf)
  (refine hp.kstA TTok rfl 1 rfl rfl (oneC_of rfl) (by rfl) fun w hp=>?_; try simp only [List.set_cons_zero,List.set_cons_succ,EV.val] at hp; conv=>whnf)
  (refine hKq _ _ _ (.refl _) ?_; clear hKq Kq; conv=>whnf)
  (refine ⟨_,Blk.lvN (hp.get (i:=1) rfl) TTok rfl rfl,?_⟩; conv=>whnf)
  exact ⟨c,m,T,al,_,_,rfl,⟨zT,by omega,hal⟩,SA.of_row (hp.get (i:=0) rfl),hp.ext,fresh_row hp (i:=0) rfl⟩
 ·by_cases hl0:0 < al.length
  ·have hk:at_ % al.length < al.length:=Nat.mod_lt _ hl0
   have ek:(at_:Int) % (al.length:Int)=((at_ % al.length:Nat):Int):=by rw [Int.natCast_emod]
   obtain ⟨a,ha⟩:∃ a,al[at_ % al.length]? = some a:=⟨al[at_ % al.length]'hk,List.getElem?_eq_getElem hk⟩
   have hao:=hal a (List.mem_of_getElem? ha)
   have hsa:=SA.of_row (hp.get (i:=0) rfl)
   obtain ⟨g,cc,zs,he,hp⟩:=hp.toBlk0 0 rfl hl0
   simp only [Value.slice.injEq,true_and] at he
   obtain ⟨rfl,rfl⟩:=he
   have hcap:=hsa.cap hl0
   have fz:=flatC_len al
   simp only [List.set_cons_zero] at hp
   have hsf:=set_flat al zs (at_ % al.length) a N ha
   (refine And.intro (fun h=>absurd (of_decide_eq_true h) (by first | (intro h2; exact absurd rfl h2) | omega | decide)) (fun _=>?_); conv=>whnf)
   (refine VSeq.mk fun Kq hKq=>?_; conv=>whnf)
   (refine hKq _ _ _ (.refl _) ?_; clear hKq Kq; conv=>whnf)
   (refine And.intro (fun h=>absurd (of_decide_eq_true h) (by first | (intro h2; exact absurd rfl h2) | omega | decide)) (fun _=>?_); conv=>whnf)
   (refine VSeq.mk fun Kq hKq=>?_; conv=>whnf)
   (refine hKq _ _ _ (.refl _) ?_; clear hKq Kq; conv=>whnf)
   (refine And.intro (fun h=>absurd (of_decide_eq_true h) (by first | (intro h2; exact absurd rfl h2) | omega | decide)) (fun _=>?_); conv=>whnf)
   (refine VSeq.mk fun Kq hKq=>?_; conv=>whnf)
   (refine hKq _ _ _ (.refl _) ?_; clear hKq Kq; conv=>whnf)
   (refine And.intro (fun _=>?_) (fun h=>absurd (by first | rfl | assumption | omega | decide) (of_decide_eq_false h)); conv=>whnf)
   (refine VSeq.mk fun Kq hKq=>?_; conv=>whnf)
   (refine ⟨_,_,Blk.ld (hp.get (i:=2) rfl) TTok rfl rfl,?_⟩; conv=>whnf)
   (refine hKq _ _ _ (.refl _) ?_; clear hKq Kq; conv=>whnf)
   (refine And.intro (fun _=>?_) (fun h=>absurd (by first | rfl | assumption | omega | decide) (of_decide_eq_false h)); conv=>whnf)
   refine v_mix TTok FFok mixed 13 [(0,false),(1,false),(2,false),(3,false),(4,false),(5,false),(6,false),(7,false),(8,false),(9,false),(10,false),(11,false),(12,false)] (by kernel_rfl) ?_
   conv=>whnf
   (refine ⟨_,fun w' hx'=>Blk.ld (Blk.ext (hp.get (i:=2) rfl) hx') TTok rfl rfl,?_⟩; conv=>whnf)
   (refine ⟨_,fun w' hx'=>Blk.ld (Blk.ext (hp.get (i:=3) rfl) hx') TTok rfl rfl,?_⟩; conv=>whnf)
   (refine Or.inl (And.intro (by first | omega | decide) ?_); conv=>whnf)
   (refine ⟨_,fun w' hx'=>Blk.ld (Blk.ext (hp.get (i:=2) rfl) hx') TTok rfl rfl,?_⟩; conv=>whnf)
   (refine And.intro (by first | omega | decide) ?_; conv=>whnf)
   (refine ⟨_,fun w' hx'=>Blk.ld (Blk.ext (hp.get (i:=3) rfl) hx') TTok rfl rfl,?_⟩; conv=>whnf)
   rw [ek]
   refine ⟨at_ % al.length,⟨by first | rfl | omega,by omega⟩,?_⟩
   conv=>whnf
   intro w hx
   try (have hp:=hp.call hx)
   conv=>whnf
   refine hp.kst1 (off:=at_ % al.length * 2) TTok (by rfl) 0 (by rfl) (by rfl) (by rfl) (by rw [List.length_append,fz]; omega) fun w hp=>?_
   try simp only [List.set_cons_zero,List.set_cons_succ,EV.val] at hp
   conv=>whnf
   refine hKq _ _ _ (.refl _) ?_
   clear hKq Kq
   conv=>whnf
   refine VSeq.mk fun Kq hKq=>?_
   conv=>whnf
   rw [hsf] at hp
   (refine ⟨_,_,Blk.ldV (vs:=[_,_,_,_]) (hp.get (i:=2) rfl) TTok rfl rfl rfl,?_⟩; conv=>whnf)
   (refine hp.kstA TTok rfl 1 rfl rfl (oneC_of rfl) (by rfl) fun w hp=>?_; try simp only [List.set_cons_zero,List.set_cons_succ,EV.val] at hp; conv=>whnf)
   (refine hKq _ _ _ (.refl _) ?_; clear hKq Kq; conv=>whnf)
   (refine ⟨_,Blk.lvN (hp.get (i:=1) rfl) TTok rfl rfl,?_⟩; conv=>whnf)
   have hls:(al.set (at_ % al.length) (N,a.2)).length=al.length:=List.length_set
   exact ⟨c,m,id,al.set (at_ % al.length) (N,a.2),some ⟨g,0,none⟩,cu,by rw [hls]; rfl,⟨hid,by rw [hls]; omega,fun b hb=>by
    rcases List.mem_or_eq_of_mem_set hb with h | h
    ·exact hal b h
    ·rw [h]; exact ⟨hN,hao.2⟩⟩,by rw [hls]; exact SA.of_blkz (hp.get (i:=0) rfl) hls hcap.1 hcap.2,hp.ext,fresh_blk hp (i:=0) rfl⟩
  ·(refine And.intro (fun h=>absurd (of_decide_eq_true h) (by first | (intro h2; exact absurd rfl h2) | omega | decide)) (fun _=>?_); conv=>whnf)
   (refine VSeq.mk fun Kq hKq=>?_; conv=>whnf)
   (refine hKq _ _ _ (.refl _) ?_; clear hKq Kq; conv=>whnf)
   (refine And.intro (fun h=>absurd (of_decide_eq_true h) (by first | (intro h2; exact absurd rfl h2) | omega | decide)) (fun _=>?_); conv=>whnf)
   (refine VSeq.mk fun Kq hKq=>?_; conv=>whnf)
   (refine hKq _ _ _ (.refl _) ?_; clear hKq Kq; conv=>whnf)
   (refine And.intro (fun h=>absurd (of_decide_eq_true h) (by first | (intro h2; exact absurd rfl h2) | omega | decide)) (fun _=>?_); conv=>whnf)
   (refine VSeq.mk fun Kq hKq=>?_; conv=>whnf)
   (refine hKq _ _ _ (.refl _) ?_; clear hKq Kq; conv=>whnf)
   (refine And.intro (fun _=>?_) (fun h=>absurd (by first | rfl | assumption | omega | decide) (of_decide_eq_false h)); conv=>whnf)
   (refine VSeq.mk fun Kq hKq=>?_; conv=>whnf)
   (refine ⟨_,_,Blk.ld (hp.get (i:=2) rfl) TTok rfl rfl,?_⟩; conv=>whnf)
   (refine hKq _ _ _ (.refl _) ?_; clear hKq Kq; conv=>whnf)
   (refine And.intro (fun h=>absurd (of_decide_eq_true h) (by first | (intro h2; exact absurd rfl h2) | omega | decide)) (fun _=>?_); conv=>whnf)
   (refine hKq _ _ _ (.refl _) ?_; clear hKq Kq; conv=>whnf)
   (refine VSeq.mk fun Kq hKq=>?_; conv=>whnf)
   (refine ⟨_,_,Blk.ldV (vs:=[_,_,_,_]) (hp.get (i:=2) rfl) TTok rfl rfl rfl,?_⟩; conv=>whnf)
   (refine hp.kstA TTok rfl 1 rfl rfl (oneC_of rfl) (by rfl) fun w hp=>?_; try simp only [List.set_cons_zero,List.set_cons_succ,EV.val] at hp; conv=>whnf)
   (refine hKq _ _ _ (.refl _) ?_; clear hKq Kq; conv=>whnf)
   (refine ⟨_,Blk.lvN (hp.get (i:=1) rfl) TTok rfl rfl,?_⟩; conv=>whnf)
   exact ⟨c,m,id,al,_,_,rfl,⟨hid,by omega,hal⟩,SA.of_row (hp.get (i:=0) rfl),hp.ext,fresh_row hp (i:=0) rfl⟩
 ·by_cases hl0:0 < al.length
  ·have hk:at_ % al.length < al.length:=Nat.mod_lt _ hl0
   have ek:(at_:Int) % (al.length:Int)=((at_ % al.length:Nat):Int):=by rw [Int.natCast_emod]
   obtain ⟨a,ha⟩:∃ a,al[at_ % al.length]? = some a:=⟨al[at_ % al.length]'hk,List.getElem?_eq_getElem hk⟩
   have hao:=hal a (List.mem_of_getElem? ha)
   have hsa:=SA.of_row (hp.get (i:=0) rfl)
   obtain ⟨g,cc,zs,he,hp⟩:=hp.toBlk0 0 rfl hl0
   simp only [Value.slice.injEq,true_and] at he
   obtain ⟨rfl,rfl⟩:=he
   have hcap:=hsa.cap hl0
   have fz:=flatC_len al
   simp only [List.set_cons_zero] at hp
   have hsf:=set_flat1 al zs (at_ % al.length) a T ha
   (refine And.intro (fun h=>absurd (of_decide_eq_true h) (by first | (intro h2; exact absurd rfl h2) | omega | decide)) (fun _=>?_); conv=>whnf)
   (refine VSeq.mk fun Kq hKq=>?_; conv=>whnf)
   (refine hKq _ _ _ (.refl _) ?_; clear hKq Kq; conv=>whnf)
   (refine And.intro (fun h=>absurd (of_decide_eq_true h) (by first | (intro h2; exact absurd rfl h2) | omega | decide)) (fun _=>?_); conv=>whnf)
   (refine VSeq.mk fun Kq hKq=>?_; conv=>whnf)
   (refine hKq _ _ _ (.refl _) ?_; clear hKq Kq; conv=>whnf)
   (refine And.intro (fun h=>absurd (of_decide_eq_true h) (by first | (intro h2; exact absurd rfl h2) | omega | decide)) (fun _=>?_); conv=>whnf)
   (refine VSeq.mk fun Kq hKq=>?_; conv=>whnf)
   (refine hKq _ _ _ (.refl _) ?_; clear hKq Kq; conv=>whnf)
   (refine And.intro (fun h=>absurd (of_decide_eq_true h) (by first | (intro h2; exact absurd rfl h2) | omega | decide)) (fun _=>?_); conv=>whnf)
   (refine VSeq.mk fun Kq hKq=>?_; conv=>whnf)
   (refine hKq _ _ _ (.refl _) ?_; clear hKq Kq; conv=>whnf)
   (refine And.intro (fun _=>?_) (fun h=>absurd (by first | rfl | assumption | omega | decide) (of_decide_eq_false h)); conv=>whnf)
   (refine VSeq.mk fun Kq hKq=>?_; conv=>whnf)
   (refine ⟨_,_,Blk.ld (hp.get (i:=2) rfl) TTok rfl rfl,?_⟩; conv=>whnf)
   (refine hKq _ _ _ (.refl _) ?_; clear hKq Kq; conv=>whnf)
   (refine And.intro (fun _=>?_) (fun h=>absurd (by first | rfl | assumption | omega | decide) (of_decide_eq_false h)); conv=>whnf)
   refine v_mix TTok FFok mixed 12 [(0,false),(1,false),(2,false),(3,false),(4,false),(5,false),(6,false),(7,false),(8,false),(9,false),(10,false),(11,false)] (by kernel_rfl) ?_
   conv=>whnf
   (refine ⟨_,fun w' hx'=>Blk.ld (Blk.ext (hp.get (i:=2) rfl) hx') TTok rfl rfl,?_⟩; conv=>whnf)
   (refine ⟨_,fun w' hx'=>Blk.ld (Blk.ext (hp.get (i:=3) rfl) hx') TTok rfl rfl,?_⟩; conv=>whnf)
   (refine Or.inl (And.intro (by first | omega | decide) ?_); conv=>whnf)
   (refine ⟨_,fun w' hx'=>Blk.ld (Blk.ext (hp.get (i:=2) rfl) hx') TTok rfl rfl,?_⟩; conv=>whnf)
   (refine And.intro (by first | omega | decide) ?_; conv=>whnf)
   rw [ek]
   refine ⟨at_ % al.length,⟨by first | rfl | omega,by omega⟩,?_⟩
   conv=>whnf
   intro w hx
   try (have hp:=hp.call hx)
   conv=>whnf
   refine hp.kst1 (off:=at_ % al.length * 2+1) TTok (by rfl) 0 (by rfl) (by rfl) (by rfl) (by rw [List.length_append,fz]; omega) fun w hp=>?_
   try simp only [List.set_cons_zero,List.set_cons_succ,EV.val] at hp
   conv=>whnf
   refine hKq _ _ _ (.refl _) ?_
   clear hKq Kq
   conv=>whnf
   refine VSeq.mk fun Kq hKq=>?_
   conv=>whnf
   rw [hsf] at hp
   (refine ⟨_,_,Blk.ldV (vs:=[_,_,_,_]) (hp.get (i:=2) rfl) TTok rfl rfl rfl,?_⟩; conv=>whnf)
   (refine hp.kstA TTok rfl 1 rfl rfl (oneC_of rfl) (by rfl) fun w hp=>?_; try simp only [List.set_cons_zero,List.set_cons_succ,EV.val] at hp; conv=>whnf)
   (refine hKq _ _ _ (.refl _) ?_; clear hKq Kq; conv=>whnf)
   (refine ⟨_,Blk.lvN (hp.get (i:=1) rfl) TTok rfl rfl,?_⟩; conv=>whnf)
   have hls:(al.set (at_ % al.length) (a.1,T)).length=al.length:=List.length_set
   exact ⟨c,m,id,al.set (at_ % al.length) (a.1,T),some ⟨g,0,none⟩,cu,by rw [hls]; rfl,⟨hid,by rw [hls]; omega,fun b hb=>by
    rcases List.mem_or_eq_of_mem_set hb with h | h
    ·exact hal b h
    ·rw [h]; exact ⟨hao.1,zT⟩⟩,by rw [hls]; exact SA.of_blkz (hp.get (i:=0) rfl) hls hcap.1 hcap.2,hp.ext,fresh_blk hp (i:=0) rfl⟩
  ·(refine And.intro (fun h=>absurd (of_decide_eq_true h) (by first | (intro h2; exact absurd rfl h2) | omega | decide)) (fun _=>?_); conv=>whnf)
   (refine VSeq.mk fun Kq hKq=>?_; conv=>whnf)
   (refine hKq _ _ _ (.refl _) ?_; clear hKq Kq; conv=>whnf)
   (refine And.intro (fun h=>absurd (of_decide_eq_true h) (by first | (intro h2; exact absurd rfl h2) | omega | decide)) (fun _=>?_); conv=>whnf)
   (refine VSeq.mk fun Kq hKq=>?_; conv=>whnf)
   (refine hKq _ _ _ (.refl _) ?_; clear hKq Kq; conv=>whnf)
   (refine And.intro (fun h=>absurd (of_decide_eq_true h) (by first | (intro h2; exact absurd rfl h2) | omega | decide)) (fun _=>?_); conv=>whnf)
   (refine VSeq.mk fun Kq hKq=>?_; conv=>whnf)
   (refine hKq _ _ _ (.refl _) ?_; clear hKq Kq; conv=>whnf)
   (refine And.intro (fun h=>absurd (of_decide_eq_true h) (by first | (intro h2; exact absurd rfl h2) | omega | decide)) (fun _=>?_); conv=>whnf)
   (refine VSeq.mk fun Kq hKq=>?_; conv=>whnf)
   (refine hKq _ _ _ (.refl _) ?_; clear hKq Kq; conv=>whnf)
   (refine And.intro (fun _=>?_) (fun h=>absurd (by first | rfl | assumption | omega | decide) (of_decide_eq_false h)); conv=>whnf)
   (refine VSeq.mk fun Kq hKq=>?_; conv=>whnf)
   (refine ⟨_,_,Blk.ld (hp.get (i:=2) rfl) TTok rfl rfl,?_⟩; conv=>whnf)
   (refine hKq _ _ _ (.refl _) ?_; clear hKq Kq; conv=>whnf)
   (refine And.intro (fun h=>absurd (of_decide_eq_true h) (by first | (intro h2; exact absurd rfl h2) | omega | decide)) (fun _=>?_); conv=>whnf)
   (refine hKq _ _ _ (.refl _) ?_; clear hKq Kq; conv=>whnf)
   (refine VSeq.mk fun Kq hKq=>?_; conv=>whnf)
   (refine ⟨_,_,Blk.ldV (vs:=[_,_,_,_]) (hp.get (i:=2) rfl) TTok rfl rfl rfl,?_⟩; conv=>whnf)
   (refine hp.kstA TTok rfl 1 rfl rfl (oneC_of rfl) (by rfl) fun w hp=>?_; try simp only [List.set_cons_zero,List.set_cons_succ,EV.val] at hp; conv=>whnf)
   (refine hKq _ _ _ (.refl _) ?_; clear hKq Kq; conv=>whnf)
   (refine ⟨_,Blk.lvN (hp.get (i:=1) rfl) TTok rfl rfl,?_⟩; conv=>whnf)
   exact ⟨c,m,id,al,_,_,rfl,⟨hid,by omega,hal⟩,SA.of_row (hp.get (i:=0) rfl),hp.ext,fresh_row hp (i:=0) rfl⟩
 ·(refine And.intro (fun h=>absurd (of_decide_eq_true h) (by first | (intro h2; exact absurd rfl h2) | omega | decide)) (fun _=>?_); conv=>whnf)
  (refine VSeq.mk fun Kq hKq=>?_; conv=>whnf)
  (refine hKq _ _ _ (.refl _) ?_; clear hKq Kq; conv=>whnf)
  (refine And.intro (fun h=>absurd (of_decide_eq_true h) (by first | (intro h2; exact absurd rfl h2) | omega | decide)) (fun _=>?_); conv=>whnf)
  (refine VSeq.mk fun Kq hKq=>?_; conv=>whnf)
  (refine hKq _ _ _ (.refl _) ?_; clear hKq Kq; conv=>whnf)
  (refine And.intro (fun h=>absurd (of_decide_eq_true h) (by first | (intro h2; exact absurd rfl h2) | omega | decide)) (fun _=>?_); conv=>whnf)
  (refine VSeq.mk fun Kq hKq=>?_; conv=>whnf)
  (refine hKq _ _ _ (.refl _) ?_; clear hKq Kq; conv=>whnf)
  (refine And.intro (fun h=>absurd (of_decide_eq_true h) (by first | (intro h2; exact absurd rfl h2) | omega | decide)) (fun _=>?_); conv=>whnf)
  (refine VSeq.mk fun Kq hKq=>?_; conv=>whnf)
  (refine hKq _ _ _ (.refl _) ?_; clear hKq Kq; conv=>whnf)
  (refine And.intro (fun h=>absurd (of_decide_eq_true h) (by first | (intro h2; exact absurd rfl h2) | omega | decide)) (fun _=>?_); conv=>whnf)
  (refine VSeq.mk fun Kq hKq=>?_; conv=>whnf)
  (refine hKq _ _ _ (.refl _) ?_; clear hKq Kq; conv=>whnf)
  (refine And.intro (fun _=>?_) (fun h=>absurd (by first | rfl | assumption | omega | decide) (of_decide_eq_false h)); conv=>whnf)
  have e6:(640:Int)+(at_:Int)=((640+at_:Nat):Int):=by omega
  refine v_mix TTok FFok mixed 10 [(0,false),(1,false),(2,false),(3,false),(4,false),(5,false),(6,true),(7,false),(8,false),(9,true)] (by kernel_rfl) ?_
  conv=>whnf
  (refine ⟨_,fun w' hx'=>Blk.ld (Blk.ext (hp.get (i:=2) rfl) hx') TTok rfl rfl,?_⟩; conv=>whnf)
  (refine ⟨_,fun w' hx'=>Blk.ld (Blk.ext (hp.get (i:=3) rfl) hx') TTok rfl rfl,?_⟩; conv=>whnf)
  (refine Or.inl (And.intro (by first | omega | decide) ?_); conv=>whnf)
  (refine Or.inl (And.intro (by first | omega | decide) ?_); conv=>whnf)
  (intro w hx; try (have hp:=hp.call hx); conv=>whnf)
  rw [e6]
  refine hp.kmkS sl88 z5 (640+at_) (by omega) (by unfold maxLen; omega) fun qb w hp hx=>?_
  rw [bytesV_rep] at hp
  conv=>whnf
  refine And.intro hx ?_
  conv=>whnf
  refine ⟨_,fun w1 hx1=>Blk.str (l:=List.replicate (640+at_) 0) (Blk.ext (hp.get (i:=0) rfl) hx1) TTok rfl rfl rfl rfl (by rw [List.length_replicate]),?_⟩
  conv=>whnf
  have zB:(⟨(List.replicate (640+at_) (0:UInt8)).toArray⟩:ByteArray).size≤maxLen:=by rw [bA_size,List.length_replicate]; unfold maxLen; omega
  generalize (⟨(List.replicate (640+at_) (0:UInt8)).toArray⟩:ByteArray)=B at *
  (refine ⟨_,fun w' hx'=>bld54_0_1 w' _ _,?_⟩; conv=>whnf)
  (intro w hx; try (have hp:=hp.call hx); conv=>whnf)
  (refine hp.kmade _ _ (fun b=>.slice (some ⟨b,0,none⟩) 1 1) (mks22_1_0 _ _ _) fun q w hp hx=>?_; conv=>whnf)
  (with_reducible refine And.intro hx ?_; conv=>whnf)
  (intro w hx; try (have hp:=hp.call hx); conv=>whnf)
  have hfc:flatC al++[.int .i64 6,.string B]=flatC (al++[(6,B)]):=by rw [flatC_app]; rfl
  refine hp.kapp sl22 2 rfl (Blk.src TTok (hp.get (i:=0) rfl) rfl (m:=1) rfl (oneC_of rfl)) (by omega) (by unfold maxLen; omega) fun v' w hp=>?_
  simp only [List.set_cons_zero,List.set_cons_succ] at hp
  rw [hfc] at hp
  obtain ⟨p1,c1,rfl⟩:=row_shape (hp.get (i:=2) rfl)
  have hll:(al++[((6:Int),B)]).length=al.length+1:=by rw [List.length_append]; rfl
  conv=>whnf
  (refine hp.kst1 TTok (by rfl) 4 (by rfl) (by rfl) (by rfl) (Nat.le_of_ble_eq_true rfl) fun w hp=>?_; try simp only [List.set_cons_zero,List.set_cons_succ,EV.val] at hp; conv=>whnf)
  (refine hKq _ _ _ (.refl _) ?_; clear hKq Kq; conv=>whnf)
  (refine VSeq.mk fun Kq hKq=>?_; conv=>whnf)
  (refine ⟨_,_,Blk.ldV (vs:=[_,_,_,_]) (hp.get (i:=4) rfl) TTok rfl rfl rfl,?_⟩; conv=>whnf)
  (refine hp.kstA TTok rfl 3 rfl rfl (oneC_of rfl) (by rfl) fun w hp=>?_; try simp only [List.set_cons_zero,List.set_cons_succ,EV.val] at hp; conv=>whnf)
  (refine hKq _ _ _ (.refl _) ?_; clear hKq Kq; conv=>whnf)
  (refine ⟨_,Blk.lvN (hp.get (i:=3) rfl) TTok rfl rfl,?_⟩; conv=>whnf)
  exact ⟨c,m,id,al++[(6,B)],_,_,by rw [hll]; rfl,⟨hid,by omega,fun b hb=>by
   rcases List.mem_append.1 hb with h | h
   ·exact hal b h
   ·rw [List.mem_singleton] at h
    rw [h]; exact ⟨⟨by show (-9223372036854775808:Int)≤6; decide,by show (6:Int)≤9223372036854775807; decide⟩,zB⟩⟩,by rw [hll]; exact SA.of_row (by rw [hll]; exact hp.get (i:=2) rfl),hp.ext,fresh_row hp (i:=2) rfl⟩
 ·(refine And.intro (fun h=>absurd (of_decide_eq_true h) (by first | (intro h2; exact absurd rfl h2) | omega | decide)) (fun _=>?_); conv=>whnf)
  (refine VSeq.mk fun Kq hKq=>?_; conv=>whnf)
  (refine hKq _ _ _ (.refl _) ?_; clear hKq Kq; conv=>whnf)
  (refine And.intro (fun h=>absurd (of_decide_eq_true h) (by first | (intro h2; exact absurd rfl h2) | omega | decide)) (fun _=>?_); conv=>whnf)
  (refine VSeq.mk fun Kq hKq=>?_; conv=>whnf)
  (refine hKq _ _ _ (.refl _) ?_; clear hKq Kq; conv=>whnf)
  (refine And.intro (fun h=>absurd (of_decide_eq_true h) (by first | (intro h2; exact absurd rfl h2) | omega | decide)) (fun _=>?_); conv=>whnf)
  (refine VSeq.mk fun Kq hKq=>?_; conv=>whnf)
  (refine hKq _ _ _ (.refl _) ?_; clear hKq Kq; conv=>whnf)
  (refine And.intro (fun h=>absurd (of_decide_eq_true h) (by first | (intro h2; exact absurd rfl h2) | omega | decide)) (fun _=>?_); conv=>whnf)
  (refine VSeq.mk fun Kq hKq=>?_; conv=>whnf)
  (refine hKq _ _ _ (.refl _) ?_; clear hKq Kq; conv=>whnf)
  (refine And.intro (fun h=>absurd (of_decide_eq_true h) (by first | (intro h2; exact absurd rfl h2) | omega | decide)) (fun _=>?_); conv=>whnf)
  (refine VSeq.mk fun Kq hKq=>?_; conv=>whnf)
  (refine hKq _ _ _ (.refl _) ?_; clear hKq Kq; conv=>whnf)
  (refine And.intro (fun h=>absurd (of_decide_eq_true h) (by first | (intro h2; exact absurd rfl h2) | omega | decide)) (fun _=>?_); conv=>whnf)
  (refine VSeq.mk fun Kq hKq=>?_; conv=>whnf)
  (refine hKq _ _ _ (.refl _) ?_; clear hKq Kq; conv=>whnf)
  (refine And.intro (fun _=>?_) (fun h=>absurd (by first | rfl | assumption | omega | decide) (of_decide_eq_false h)); conv=>whnf)
  refine ⟨fun mm e w'=>∃ (bl:List At2) (u:Value),mm+bl.length=al.length+31∧(∀ a∈bl,AtOk a)∧e=[(2,.v (.pointer (some ⟨q2,0,none⟩))),(3,.v (.pointer (some ⟨q3,0,none⟩))),(4,.v (.pointer (some ⟨b4,0,none⟩)))]∧HpM [] W w' [row 54 2 u bl.length (flatC bl),blk b4 [.int .i64 0,.int .i64 0,.string ⟨#[]⟩,.slice none 0 0] 24,blk q3 [.int .i64 c,.int .i64 m,.string id,u] 24,blk q2 [.int .u8 wh,.int .u8 at_,.int .i64 N,.string S] 30],
   ⟨31,_,⟨al,_,by omega,hal,rfl,hp⟩,sub_cons rfl (sub_cons rfl (sub_cons rfl sub_nil))⟩,?_⟩
  clear hp
  repeat clear hp
  rintro mm _ w ⟨bl,u,hmm,hbl,rfl,hp⟩
  obtain ⟨pw,cw,rfl⟩:=row_shape (hp.get (i:=0) rfl)
  (refine VSeq.mk fun Kq hKq=>?_; conv=>whnf)
  (refine VSeq.mk fun Kq hKq=>?_; conv=>whnf)
  (refine ⟨_,_,Blk.ld (hp.get (i:=2) rfl) TTok rfl rfl,?_⟩; conv=>whnf)
  (refine ⟨_,_,Blk.ld (hp.get (i:=3) rfl) TTok rfl rfl,?_⟩; conv=>whnf)
  (refine And.intro (by first | omega | decide) ?_; conv=>whnf)
  (refine Or.inl (And.intro (by first | omega | decide) ?_); conv=>whnf)
  (refine Or.inl (And.intro (by first | omega | decide) ?_); conv=>whnf)
  (refine hKq _ _ _ (.refl _) ?_; clear hKq Kq; conv=>whnf)
  refine ⟨fun hlt=>?_,fun hlt=>?_⟩
  ·have hlt:=of_decide_eq_true hlt
   conv=>whnf
   refine hKq _ _ _ (.refl _) ?_
   clear hKq Kq
   conv=>whnf
   have hfc:flatC bl++[.int .i64 32809,.string ⟨#[]⟩]=flatC (bl++[(32809,⟨#[]⟩)]):=by rw [flatC_app]; rfl
   conv=>whnf
   (refine ⟨_,_,Blk.ld (hp.get (i:=2) rfl) TTok rfl rfl,?_⟩; conv=>whnf)
   (refine ⟨_,_,bld54_0 _ _,?_⟩; conv=>whnf)
   (refine hp.kmade _ _ (fun b=>.slice (some ⟨b,0,none⟩) 1 1) (mks22_1_0 _ _ _) fun q w hp hx=>?_; conv=>whnf)
   refine hp.kapp sl22 1 rfl (Blk.src TTok (hp.get (i:=0) rfl) rfl (m:=1) rfl (oneC_of rfl)) (by omega) (by unfold maxLen; omega) fun v' w hp=>?_
   simp only [List.set_cons_zero,List.set_cons_succ] at hp
   rw [hfc] at hp
   obtain ⟨p1,c1,rfl⟩:=row_shape (hp.get (i:=1) rfl)
   have hll:(bl++[((32809:Int),(⟨#[]⟩:ByteArray))]).length=bl.length+1:=by rw [List.length_append]; rfl
   conv=>whnf
   (refine hp.kst1 TTok (by rfl) 3 (by rfl) (by rfl) (by rfl) (Nat.le_of_ble_eq_true rfl) fun w hp=>?_; try simp only [List.set_cons_zero,List.set_cons_succ,EV.val] at hp; conv=>whnf)
   refine ⟨mm - 1,_,by omega,⟨bl++[(32809,⟨#[]⟩)],_,by rw [hll]; omega,fun b hb=>?_,rfl,by rw [hll]; exact hp.tail⟩,sub_cons rfl (sub_cons rfl (sub_cons rfl sub_nil))⟩
   rcases List.mem_append.1 hb with h | h
   ·exact hbl b h
   ·rw [List.mem_singleton] at h
    rw [h]; exact ⟨⟨by decide,by decide⟩,by unfold maxLen; decide⟩
  ·have hlt:=of_decide_eq_false hlt
   conv=>whnf
   clear hKq Kq
   refine hKq _ _ _ (.refl _) ?_
   clear hKq Kq
   conv=>whnf
   refine VSeq.mk fun Kq hKq=>?_
   conv=>whnf
   conv=>whnf
   (refine ⟨_,_,Blk.ldV (vs:=[_,_,_,_]) (hp.get (i:=2) rfl) TTok rfl rfl rfl,?_⟩; conv=>whnf)
   (refine hp.kstA TTok rfl 1 rfl rfl (oneC_of rfl) (by rfl) fun w hp=>?_; try simp only [List.set_cons_zero,List.set_cons_succ,EV.val] at hp; conv=>whnf)
   (refine hKq _ _ _ (.refl _) ?_; clear hKq Kq; conv=>whnf)
   (refine ⟨_,Blk.lvN (hp.get (i:=1) rfl) TTok rfl rfl,?_⟩; conv=>whnf)
   exact ⟨c,m,id,bl,_,_,rfl,⟨hid,by omega,hbl⟩,SA.of_row (hp.get (i:=0) rfl),hp.ext,fresh_row hp (i:=0) rfl⟩
 ·by_cases hl0:0 < al.length
  ·have hk:at_ % al.length < al.length:=Nat.mod_lt _ hl0
   have ek:(at_:Int) % (al.length:Int)=((at_ % al.length:Nat):Int):=by rw [Int.natCast_emod]
   obtain ⟨a,ha⟩:∃ a,al[at_ % al.length]? = some a:=⟨al[at_ % al.length]'hk,List.getElem?_eq_getElem hk⟩
   have hao:=hal a (List.mem_of_getElem? ha)
   have hsa:=SA.of_row (hp.get (i:=0) rfl)
   obtain ⟨g,cc,he⟩:=row_form (hp.get (i:=0) rfl) hl0
   simp only [Value.slice.injEq,true_and] at he
   obtain ⟨rfl,rfl⟩:=he
   have hT:=SA.take hsa hk
   (refine And.intro (fun h=>absurd (of_decide_eq_true h) (by first | (intro h2; exact absurd rfl h2) | omega | decide)) (fun _=>?_); conv=>whnf)
   (refine VSeq.mk fun Kq hKq=>?_; conv=>whnf)
   (refine hKq _ _ _ (.refl _) ?_; clear hKq Kq; conv=>whnf)
   (refine And.intro (fun h=>absurd (of_decide_eq_true h) (by first | (intro h2; exact absurd rfl h2) | omega | decide)) (fun _=>?_); conv=>whnf)
   (refine VSeq.mk fun Kq hKq=>?_; conv=>whnf)
   (refine hKq _ _ _ (.refl _) ?_; clear hKq Kq; conv=>whnf)
   (refine And.intro (fun h=>absurd (of_decide_eq_true h) (by first | (intro h2; exact absurd rfl h2) | omega | decide)) (fun _=>?_); conv=>whnf)
   (refine VSeq.mk fun Kq hKq=>?_; conv=>whnf)
   (refine hKq _ _ _ (.refl _) ?_; clear hKq Kq; conv=>whnf)
   (refine And.intro (fun h=>absurd (of_decide_eq_true h) (by first | (intro h2; exact absurd rfl h2) | omega | decide)) (fun _=>?_); conv=>whnf)
   (refine VSeq.mk fun Kq hKq=>?_; conv=>whnf)
   (refine hKq _ _ _ (.refl _) ?_; clear hKq Kq; conv=>whnf)
   (refine And.intro (fun h=>absurd (of_decide_eq_true h) (by first | (intro h2; exact absurd rfl h2) | omega | decide)) (fun _=>?_); conv=>whnf)
   (refine VSeq.mk fun Kq hKq=>?_; conv=>whnf)
   (refine hKq _ _ _ (.refl _) ?_; clear hKq Kq; conv=>whnf)
   (refine And.intro (fun h=>absurd (of_decide_eq_true h) (by first | (intro h2; exact absurd rfl h2) | omega | decide)) (fun _=>?_); conv=>whnf)
   (refine VSeq.mk fun Kq hKq=>?_; conv=>whnf)
   (refine hKq _ _ _ (.refl _) ?_; clear hKq Kq; conv=>whnf)
   (refine And.intro (fun h=>absurd (of_decide_eq_true h) (by first | (intro h2; exact absurd rfl h2) | omega | decide)) (fun _=>?_); conv=>whnf)
   (refine VSeq.mk fun Kq hKq=>?_; conv=>whnf)
   (refine ⟨_,_,Blk.ld (hp.get (i:=2) rfl) TTok rfl rfl,?_⟩; conv=>whnf)
   (refine hKq _ _ _ (.refl _) ?_; clear hKq Kq; conv=>whnf)
   (refine And.intro (fun _=>?_) (fun h=>absurd (by first | rfl | assumption | omega | decide) (of_decide_eq_false h)); conv=>whnf)
   refine v_mix TTok FFok mixed 11 [(0,false),(1,false),(2,false),(3,false),(4,false),(5,false),(6,false),(7,false),(8,false),(9,false),(10,false)] (by kernel_rfl) ?_
   conv=>whnf
   (refine ⟨_,fun w' hx'=>Blk.ld (Blk.ext (hp.get (i:=2) rfl) hx') TTok rfl rfl,?_⟩; conv=>whnf)
   (refine ⟨_,fun w' hx'=>Blk.ld (Blk.ext (hp.get (i:=3) rfl) hx') TTok rfl rfl,?_⟩; conv=>whnf)
   (refine Or.inl (And.intro (by first | omega | decide) ?_); conv=>whnf)
   (refine ⟨_,fun w' hx'=>Blk.ld (Blk.ext (hp.get (i:=2) rfl) hx') TTok rfl rfl,?_⟩; conv=>whnf)
   (refine And.intro (by first | omega | decide) ?_; conv=>whnf)
   rw [ek]
   refine ⟨_,fun w1 _=>run_slice_hi TTok rfl rfl (at_ % al.length) hT.1,?_⟩
   conv=>whnf
   (intro w hx; try (have hp:=hp.call hx); conv=>whnf)
   (refine hp.kst1 TTok (by rfl) 2 (by rfl) (by rfl) (by rfl) (Nat.le_of_ble_eq_true rfl) fun w hp=>?_; try simp only [List.set_cons_zero,List.set_cons_succ,EV.val] at hp; conv=>whnf)
   (refine hKq _ _ _ (.refl _) ?_; clear hKq Kq; conv=>whnf)
   (refine VSeq.mk fun Kq hKq=>?_; conv=>whnf)
   (refine ⟨_,_,Blk.ldV (vs:=[_,_,_,_]) (hp.get (i:=2) rfl) TTok rfl rfl rfl,?_⟩; conv=>whnf)
   (refine hp.kstA TTok rfl 1 rfl rfl (oneC_of rfl) (by rfl) fun w hp=>?_; try simp only [List.set_cons_zero,List.set_cons_succ,EV.val] at hp; conv=>whnf)
   (refine hKq _ _ _ (.refl _) ?_; clear hKq Kq; conv=>whnf)
   (refine ⟨_,Blk.lvN (hp.get (i:=1) rfl) TTok rfl rfl,?_⟩; conv=>whnf)
   conv=>whnf
   skip
   have hlt:(al.take (at_ % al.length)).length=at_ % al.length:=by rw [List.length_take]; omega
   exact ⟨c,m,id,al.take (at_ % al.length),some ⟨g,0,none⟩,_,by rw [hlt]; rfl,⟨hid,by rw [hlt]; omega,fun b hb=>hal b (List.mem_of_mem_take hb)⟩,by rw [hlt]; exact (SA.take (SA.of_row (hp.get (i:=0) rfl)) hk).2,hp.ext,fresh_row hp (i:=0) rfl⟩
  ·(refine And.intro (fun h=>absurd (of_decide_eq_true h) (by first | (intro h2; exact absurd rfl h2) | omega | decide)) (fun _=>?_); conv=>whnf)
   (refine VSeq.mk fun Kq hKq=>?_; conv=>whnf)
   (refine hKq _ _ _ (.refl _) ?_; clear hKq Kq; conv=>whnf)
   (refine And.intro (fun h=>absurd (of_decide_eq_true h) (by first | (intro h2; exact absurd rfl h2) | omega | decide)) (fun _=>?_); conv=>whnf)
   (refine VSeq.mk fun Kq hKq=>?_; conv=>whnf)
   (refine hKq _ _ _ (.refl _) ?_; clear hKq Kq; conv=>whnf)
   (refine And.intro (fun h=>absurd (of_decide_eq_true h) (by first | (intro h2; exact absurd rfl h2) | omega | decide)) (fun _=>?_); conv=>whnf)
   (refine VSeq.mk fun Kq hKq=>?_; conv=>whnf)
   (refine hKq _ _ _ (.refl _) ?_; clear hKq Kq; conv=>whnf)
   (refine And.intro (fun h=>absurd (of_decide_eq_true h) (by first | (intro h2; exact absurd rfl h2) | omega | decide)) (fun _=>?_); conv=>whnf)
   (refine VSeq.mk fun Kq hKq=>?_; conv=>whnf)
   (refine hKq _ _ _ (.refl _) ?_; clear hKq Kq; conv=>whnf)
   (refine And.intro (fun h=>absurd (of_decide_eq_true h) (by first | (intro h2; exact absurd rfl h2) | omega | decide)) (fun _=>?_); conv=>whnf)
   (refine VSeq.mk fun Kq hKq=>?_; conv=>whnf)
   (refine hKq _ _ _ (.refl _) ?_; clear hKq Kq; conv=>whnf)
   (refine And.intro (fun h=>absurd (of_decide_eq_true h) (by first | (intro h2; exact absurd rfl h2) | omega | decide)) (fun _=>?_); conv=>whnf)
   (refine VSeq.mk fun Kq hKq=>?_; conv=>whnf)
   (refine hKq _ _ _ (.refl _) ?_; clear hKq Kq; conv=>whnf)
   (refine And.intro (fun h=>absurd (of_decide_eq_true h) (by first | (intro h2; exact absurd rfl h2) | omega | decide)) (fun _=>?_); conv=>whnf)
   (refine VSeq.mk fun Kq hKq=>?_; conv=>whnf)
   (refine ⟨_,_,Blk.ld (hp.get (i:=2) rfl) TTok rfl rfl,?_⟩; conv=>whnf)
   (refine hKq _ _ _ (.refl _) ?_; clear hKq Kq; conv=>whnf)
   (refine And.intro (fun h=>absurd (of_decide_eq_true h) (by first | (intro h2; exact absurd rfl h2) | omega | decide)) (fun _=>?_); conv=>whnf)
   (refine hKq _ _ _ (.refl _) ?_; clear hKq Kq; conv=>whnf)
   (refine VSeq.mk fun Kq hKq=>?_; conv=>whnf)
   (refine ⟨_,_,Blk.ldV (vs:=[_,_,_,_]) (hp.get (i:=2) rfl) TTok rfl rfl rfl,?_⟩; conv=>whnf)
   (refine hp.kstA TTok rfl 1 rfl rfl (oneC_of rfl) (by rfl) fun w hp=>?_; try simp only [List.set_cons_zero,List.set_cons_succ,EV.val] at hp; conv=>whnf)
   (refine hKq _ _ _ (.refl _) ?_; clear hKq Kq; conv=>whnf)
   (refine ⟨_,Blk.lvN (hp.get (i:=1) rfl) TTok rfl rfl,?_⟩; conv=>whnf)
   exact ⟨c,m,id,al,_,_,rfl,⟨hid,by omega,hal⟩,SA.of_row (hp.get (i:=0) rfl),hp.ext,fresh_row hp (i:=0) rfl⟩
set_option maxHeartbeats 3200000
theorem Protect_full {W:World} {v:Value} {al:List At2} (c m:Nat) (id key:ByteArray) (hv:SA W v al) (hb:stunB c m id al=true) (hk:key.size≤4096) (h8:hasB 8 al=false) (h9:hasB 32808 al=false) (hb2:stunB c m id (al++[(8,macB key (wrB c m id al 36))])=false) :
  Calls Tryz.prog 39 #[.agg #[.int .i64 c,.int .i64 m,.string id,v],.string key] W fun e w'=>∃ u,e = .returned u∧u = .tuple #[zStun,.int .i64 3]∧Ext W w':=by
 obtain ⟨b1,b2,b3,b4,b5,b6,b7,b8⟩:=stunB_t hb
 have hN:chkN c m id al=0:=by unfold chkN; rw [hb]; rfl
 obtain ⟨p,cp,rfl⟩:=hv.shape
 refine v_fn (args:=[.agg #[.int .i64 c,.int .i64 m,.string id,.slice p al.length cp],.string key]) TTok FFok Tryz.func39 rfl (Nat.le_of_ble_eq_true rfl) ?_
 have hp:=Hp.nil W
 conv=>whnf
 refine VSeq.mk fun Kq hKq=>?_
 conv=>whnf
 (refine hp.kboxA fun q w hp hx=>?_; conv=>whnf)
 (refine hp.kalloc z24 fun al24 w hp hx=>?_; conv=>whnf)
 (refine hKq _ _ _ (.refl _) ?_; clear hKq Kq; conv=>whnf)
 (refine VSeq.mk fun Kq hKq=>?_; conv=>whnf)
 (refine VSeq.mk fun Kq hKq=>?_; conv=>whnf)
 (refine ⟨_,_,Blk.ldV (vs:=[_,_,_,_]) (hp.get (i:=1) rfl) TTok rfl rfl rfl,?_⟩; conv=>whnf)
 have hck:=Check_c (W:=w) c m id (hv.ext hp.ext)
 rw [hN] at hck
 (refine V.CallW.out ?_; (conv=>arg 3; dsimp only [EV.val,List.toList_toArray,List.nil_append,List.append_nil,List.cons_append]); (with_reducible refine V.CallsUseW (hck) fun w hx=>?_); try (have hp:=hp.call hx); conv=>whnf)
 (refine hKq _ _ _ (.refl _) ?_; clear hKq Kq; conv=>whnf)
 (refine VSeq.mk fun Kq hKq=>?_; conv=>whnf)
 (refine hKq _ _ _ (.refl _) ?_; clear hKq Kq; conv=>whnf)
 (refine And.intro (fun h=>absurd (of_decide_eq_true h) (by first | (intro h2; exact absurd rfl h2) | omega | decide)) (fun _=>?_); conv=>whnf)
 (refine VSeq.mk fun Kq hKq=>?_; conv=>whnf)
 (refine hKq _ _ _ (.refl _) ?_; clear hKq Kq; conv=>whnf)
 (refine And.intro (fun h=>absurd (of_decide_eq_true h) (by first | (intro h2; exact absurd rfl h2) | omega | decide)) (fun _=>?_); conv=>whnf)
 (refine VSeq.mk fun Kq hKq=>?_; conv=>whnf)
 (refine VSeq.mk fun Kq hKq=>?_; conv=>whnf)
 (refine ⟨_,_,Blk.ldV (vs:=[_,_,_,_]) (hp.get (i:=1) rfl) TTok rfl rfl rfl,?_⟩; conv=>whnf)
 have hq:=has_c (W:=w) c m id 8 (hv.ext hp.ext)
 rw [h8] at hq
 (refine V.CallW.out ?_; (conv=>arg 3; dsimp only [EV.val,List.toList_toArray,List.nil_append,List.append_nil,List.cons_append]); refine V.CallsUseW (hq) fun w hx=>?_; try (have hp:=hp.call hx); conv=>whnf)
 (refine hKq _ _ _ (.refl _) ?_; clear hKq Kq; conv=>whnf)
 (refine And.intro (fun h=>absurd h (by decide)) (fun _=>?_); conv=>whnf)
 (refine ⟨_,_,Blk.ldV (vs:=[_,_,_,_]) (hp.get (i:=1) rfl) TTok rfl rfl rfl,?_⟩; conv=>whnf)
 have hq:=has_c (W:=w) c m id 32808 (hv.ext hp.ext)
 rw [h9] at hq
 (refine V.CallW.out ?_; (conv=>arg 3; dsimp only [EV.val,List.toList_toArray,List.nil_append,List.append_nil,List.cons_append]); refine V.CallsUseW (hq) fun w hx=>?_; try (have hp:=hp.call hx); conv=>whnf)
 (refine hKq _ _ _ (.refl _) ?_; clear hKq Kq; conv=>whnf)
 (refine And.intro (fun h=>absurd h (by decide)) (fun _=>?_); conv=>whnf)
 (refine hKq _ _ _ (.refl _) ?_; clear hKq Kq; conv=>whnf)
 (refine VSeq.mk fun Kq hKq=>?_; conv=>whnf)
 refine v_mix TTok FFok mixed 10 [(0,false),(1,false),(2,false),(3,false),(4,false),(5,true),(6,false),(7,true),(8,false),(9,false)] (by kernel_rfl) ?_
 conv=>whnf
 refine ⟨_,fun w' hx'=>Blk.ldN (Blk.ext (hp.get (i:=1) rfl) hx') TTok rfl (rfl),?_⟩
 conv=>whnf
 refine ⟨_,fun w' hx'=>Blk.ldN (Blk.ext (hp.get (i:=1) rfl) hx') TTok rfl (rfl),?_⟩
 conv=>whnf
 refine ⟨_,fun w' hx'=>Blk.ld (Blk.ext (hp.get (i:=1) rfl) hx') TTok rfl (rfl),?_⟩
 conv=>whnf
 intro w hx
 try (have hp:=hp.call hx)
 conv=>whnf
 refine V.CallsUse (integrity_c (W:=w) (hv.ext hp.ext) c m id key ⟨_,_,_,rfl⟩ (by omega) (by omega) b5 b7 (by omega) b8 hk) fun w hx=>?_
 have hp:=hp.call hx
 conv=>whnf
 refine And.intro hx ?_
 conv=>whnf
 refine ⟨_,fun w' _=>bld54_0_1 w' _ _,?_⟩
 conv=>whnf
 intro w hx
 try (have hp:=hp.call hx)
 conv=>whnf
 refine Calls.mono (with_f (W:=w) c m id 8 (macB key (wrB c m id al 36)) (hv.ext hp.ext) (by omega) hb2) ?_
 rintro _ w ⟨u,rfl,rfl,hx⟩
 refine ⟨_,rfl,?_⟩
 have hp:=hp.call hx
 conv=>whnf
 refine And.intro hx ?_
 conv=>whnf
 intro w hx
 try (have hp:=hp.call hx)
 conv=>whnf
 (refine hp.kstA TTok rfl 0 rfl rfl (oneC_of rfl) (by rfl) fun w hp=>?_; try simp only [List.set_cons_zero,List.set_cons_succ,EV.val] at hp; conv=>whnf)
 (refine hKq _ _ _ (.refl _) ?_; clear hKq Kq; conv=>whnf)
 (refine ⟨_,Blk.lvN (hp.get (i:=0) rfl) TTok rfl rfl,?_⟩; conv=>whnf)
 exact ⟨rfl,hp.ext⟩
theorem Protect_ok {W:World} {v:Value} {al:List At2} (c m:Nat) (id key:ByteArray) (hv:SA W v al) (hb:stunB c m id al=true) (hk:key.size≤4096) (h8:hasB 8 al=false) (h9:hasB 32808 al=false) (hb2:stunB c m id (al++[(8,macB key (wrB c m id al 36))])=true) :
  Calls Tryz.prog 39 #[.agg #[.int .i64 c,.int .i64 m,.string id,v],.string key] W fun e w'=>∃ u,e = .returned u∧∃ v',u = .tuple #[.agg #[.int .i64 c,.int .i64 m,.string id,v'],.int .i64 0]∧HpM [] W w' [row 54 2 v' (al++[((8:Int),macB key (wrB c m id al 36))]).length (flatC (al++[((8:Int),macB key (wrB c m id al 36))]))]:=by
 obtain ⟨b1,b2,b3,b4,b5,b6,b7,b8⟩:=stunB_t hb
 have hN:chkN c m id al=0:=by unfold chkN; rw [hb]; rfl
 obtain ⟨p,cp,rfl⟩:=hv.shape
 refine v_fn (args:=[.agg #[.int .i64 c,.int .i64 m,.string id,.slice p al.length cp],.string key]) TTok FFok Tryz.func39 rfl (Nat.le_of_ble_eq_true rfl) ?_
 have hp:=Hp.nil W
 conv=>whnf
 refine VSeq.mk fun Kq hKq=>?_
 conv=>whnf
 (refine hp.kboxA fun q w hp hx=>?_; conv=>whnf)
 (refine hp.kalloc z24 fun al24 w hp hx=>?_; conv=>whnf)
 (refine hKq _ _ _ (.refl _) ?_; clear hKq Kq; conv=>whnf)
 (refine VSeq.mk fun Kq hKq=>?_; conv=>whnf)
 (refine VSeq.mk fun Kq hKq=>?_; conv=>whnf)
 (refine ⟨_,_,Blk.ldV (vs:=[_,_,_,_]) (hp.get (i:=1) rfl) TTok rfl rfl rfl,?_⟩; conv=>whnf)
 have hck:=Check_c (W:=w) c m id (hv.ext hp.ext)
 rw [hN] at hck
 (refine V.CallW.out ?_; (conv=>arg 3; dsimp only [EV.val,List.toList_toArray,List.nil_append,List.append_nil,List.cons_append]); (with_reducible refine V.CallsUseW (hck) fun w hx=>?_); try (have hp:=hp.call hx); conv=>whnf)
 (refine hKq _ _ _ (.refl _) ?_; clear hKq Kq; conv=>whnf)
 (refine VSeq.mk fun Kq hKq=>?_; conv=>whnf)
 (refine hKq _ _ _ (.refl _) ?_; clear hKq Kq; conv=>whnf)
 (refine And.intro (fun h=>absurd (of_decide_eq_true h) (by first | (intro h2; exact absurd rfl h2) | omega | decide)) (fun _=>?_); conv=>whnf)
 (refine VSeq.mk fun Kq hKq=>?_; conv=>whnf)
 (refine hKq _ _ _ (.refl _) ?_; clear hKq Kq; conv=>whnf)
 (refine And.intro (fun h=>absurd (of_decide_eq_true h) (by first | (intro h2; exact absurd rfl h2) | omega | decide)) (fun _=>?_); conv=>whnf)
 (refine VSeq.mk fun Kq hKq=>?_; conv=>whnf)
 (refine VSeq.mk fun Kq hKq=>?_; conv=>whnf)
 (refine ⟨_,_,Blk.ldV (vs:=[_,_,_,_]) (hp.get (i:=1) rfl) TTok rfl rfl rfl,?_⟩; conv=>whnf)
 have hq:=has_c (W:=w) c m id 8 (hv.ext hp.ext)
 rw [h8] at hq
 (refine V.CallW.out ?_; (conv=>arg 3; dsimp only [EV.val,List.toList_toArray,List.nil_append,List.append_nil,List.cons_append]); refine V.CallsUseW (hq) fun w hx=>?_; try (have hp:=hp.call hx); conv=>whnf)
 (refine hKq _ _ _ (.refl _) ?_; clear hKq Kq; conv=>whnf)
 (refine And.intro (fun h=>absurd h (by decide)) (fun _=>?_); conv=>whnf)
 (refine ⟨_,_,Blk.ldV (vs:=[_,_,_,_]) (hp.get (i:=1) rfl) TTok rfl rfl rfl,?_⟩; conv=>whnf)
 have hq:=has_c (W:=w) c m id 32808 (hv.ext hp.ext)
 rw [h9] at hq
 (refine V.CallW.out ?_; (conv=>arg 3; dsimp only [EV.val,List.toList_toArray,List.nil_append,List.append_nil,List.cons_append]); refine V.CallsUseW (hq) fun w hx=>?_; try (have hp:=hp.call hx); conv=>whnf)
 (refine hKq _ _ _ (.refl _) ?_; clear hKq Kq; conv=>whnf)
 (refine And.intro (fun h=>absurd h (by decide)) (fun _=>?_); conv=>whnf)
 (refine hKq _ _ _ (.refl _) ?_; clear hKq Kq; conv=>whnf)
 (refine VSeq.mk fun Kq hKq=>?_; conv=>whnf)
 refine v_mix TTok FFok mixed 10 [(0,false),(1,false),(2,false),(3,false),(4,false),(5,true),(6,false),(7,true),(8,false),(9,false)] (by kernel_rfl) ?_
 conv=>whnf
 refine ⟨_,fun w' hx'=>Blk.ldN (Blk.ext (hp.get (i:=1) rfl) hx') TTok rfl (rfl),?_⟩
 conv=>whnf
 refine ⟨_,fun w' hx'=>Blk.ldN (Blk.ext (hp.get (i:=1) rfl) hx') TTok rfl (rfl),?_⟩
 conv=>whnf
 refine ⟨_,fun w' hx'=>Blk.ld (Blk.ext (hp.get (i:=1) rfl) hx') TTok rfl (rfl),?_⟩
 conv=>whnf
 intro w hx
 try (have hp:=hp.call hx)
 conv=>whnf
 refine V.CallsUse (integrity_c (W:=w) (hv.ext hp.ext) c m id key ⟨_,_,_,rfl⟩ (by omega) (by omega) b5 b7 (by omega) b8 hk) fun w hx=>?_
 have hp:=hp.call hx
 conv=>whnf
 refine And.intro hx ?_
 conv=>whnf
 refine ⟨_,fun w' _=>bld54_0_1 w' _ _,?_⟩
 conv=>whnf
 intro w hx
 try (have hp:=hp.call hx)
 conv=>whnf
 refine Calls.mono (with_t (W:=w) c m id 8 (macB key (wrB c m id al 36)) (hv.ext hp.ext) (by omega) hb2) ?_
 rintro _ w ⟨u,rfl,v',rfl,k2⟩
 refine ⟨_,rfl,?_⟩
 have hx:=k2.ext
 have hp:=hp.join k2
 simp only [List.cons_append,List.nil_append] at hp
 obtain ⟨pu,cu,rfl⟩:=row_shape (hp.get (i:=0) rfl)
 conv=>whnf
 refine And.intro hx ?_
 conv=>whnf
 intro w hx
 try (have hp:=hp.call hx)
 conv=>whnf
 (refine hp.kstA TTok rfl 1 rfl rfl (oneC_of rfl) (by rfl) fun w hp=>?_; try simp only [List.set_cons_zero,List.set_cons_succ,EV.val] at hp; conv=>whnf)
 (refine hKq _ _ _ (.refl _) ?_; clear hKq Kq; conv=>whnf)
 (refine ⟨_,Blk.lvN (hp.get (i:=1) rfl) TTok rfl rfl,?_⟩; conv=>whnf)
 exact ⟨_,rfl,hp.pick [0] (by decide)⟩
theorem Encode_ok {W:World} {v:Value} {al:List At2} (c m:Nat) (id:ByteArray) (hv:SA W v al) (hb:stunB c m id al=true) :
  Calls Tryz.prog 16 #[.agg #[.int .i64 c,.int .i64 m,.string id,v]] W fun e w'=>e = .returned (.tuple #[.string (wrB c m id al 0),.int .i64 0])∧Ext W w':=by
 obtain ⟨b1,b2,b3,b4,b5,b6,b7,b8⟩:=stunB_t hb
 have hN:chkN c m id al=0:=by unfold chkN; rw [hb]; rfl
 obtain ⟨p,cp,rfl⟩:=hv.shape
 refine v_reads (args:=[.agg #[.int .i64 c,.int .i64 m,.string id,.slice p al.length cp]]) TTok FFok Tryz.func16 rfl rfl ?_
 conv=>whnf
 refine VSeq.mk fun Kq hKq=>?_
 conv=>whnf
 have hp:=Hp.nil W
 (refine hp.kboxA fun q w hp hx=>?_; conv=>whnf)
 (refine hKq _ _ _ (.refl _) ?_; clear hKq Kq; conv=>whnf)
 (refine VSeq.mk fun Kq hKq=>?_; conv=>whnf)
 (refine VSeq.mk fun Kq hKq=>?_; conv=>whnf)
 (refine ⟨_,_,Blk.ldV (vs:=[_,_,_,_]) (hp.get (i:=0) rfl) TTok rfl rfl rfl,?_⟩; conv=>whnf)
 have hck:=Check_c (W:=w) c m id (hv.ext hp.ext)
 rw [hN] at hck
 (refine V.CallW.out ?_; (conv=>arg 3; dsimp only [EV.val,List.toList_toArray,List.nil_append,List.append_nil,List.cons_append]); (with_reducible refine V.CallsUseW (hck) fun w hx=>?_); try (have hp:=hp.call hx); conv=>whnf)
 (refine hKq _ _ _ (.refl _) ?_; clear hKq Kq; conv=>whnf)
 (refine VSeq.mk fun Kq hKq=>?_; conv=>whnf)
 (refine hKq _ _ _ (.refl _) ?_; clear hKq Kq; conv=>whnf)
 (refine And.intro (fun h=>absurd (of_decide_eq_true h) (by first | (intro h2; exact absurd rfl h2) | omega | decide)) (fun _=>?_); conv=>whnf)
 (refine hKq _ _ _ (.refl _) ?_; clear hKq Kq; conv=>whnf)
 (refine VSeq.mk fun Kq hKq=>?_; conv=>whnf)
 (refine ⟨_,_,Blk.ldV (vs:=[_,_,_,_]) (hp.get (i:=0) rfl) TTok rfl rfl rfl,?_⟩; conv=>whnf)
 (refine ⟨_,_,Blk.ld (hp.get (i:=0) rfl) TTok rfl rfl,?_⟩; conv=>whnf)
 refine V.CallsUse (written_c (W:=w) (hv.ext hp.ext) c m id 0 ⟨_,_,_,rfl⟩ (by omega) (by omega) (by omega) b7 (by omega) (by omega)) fun w hx=>?_
 try (have hp:=hp.call hx)
 conv=>whnf
 refine hKq _ _ _ (.refl _) ?_
 clear hKq Kq
 conv=>whnf
 (exact ⟨rfl,hp.ext⟩)
end Go.Proofs.YtmlmfmdmomegpaaGreatDoor
