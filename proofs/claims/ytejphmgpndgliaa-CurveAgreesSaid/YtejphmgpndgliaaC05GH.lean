/- The ladder walks on the curve; two secrets in either order. -/
import Derived.Test.YtejphmgpndgliaaC05GD
namespace Go.Proofs.Ytejphmgpndgliaa.GA
set_option linter.unusedVariables false
theorem ofN_fa (x y : Nat) : ofN (fa x y) = ofN x + ofN y := by unfold fa; rw [ofN_mod, ofN_add]
theorem ofN_fm (x y : Nat) : ofN (fm x y) = ofN x * ofN y := by unfold fm; rw [ofN_mod, ofN_mul]
theorem ofN_pp : ofN (4 * PP) = 0 := by decide +kernel
theorem sub_of {a b c : F} (h : a + b = c) : a = c - b := by grobner
theorem add_z (a : F) : a + 0 = a := by grobner
theorem ofN_fs {x y : Nat} (h : y < PP) : ofN (fs x y) = ofN x - ofN y := by
  unfold fs
  rw [ofN_mod]
  refine sub_of ?_
  rw [← ofN_add, Nat.sub_add_cancel (by omega), ofN_add, ofN_pp, add_z]
theorem fa_lt (x y : Nat) : fa x y < PP := Nat.mod_lt _ (by decide)
theorem fs_lt' (x y : Nat) : fs x y < PP := Nat.mod_lt _ (by decide)
theorem fm_lt' (x y : Nat) : fm x y < PP := Nat.mod_lt _ (by decide)
/-- the values of a step -/
theorem stepF (u : Nat) (q : Lad) (ho : q.ok) {a b c d : F} (ha : ofN q.a = a) (hb : ofN q.b = b) (hc : ofN q.c = c) (hd : ofN q.d = d) :
    ofN (q.step u).a = (a+b)*(a+b)*((a-b)*(a-b)) ∧
    ofN (q.step u).b = ((a+b)*(a+b)-(a-b)*(a-b))*((a+b)*(a+b)+((a+b)*(a+b)-(a-b)*(a-b))*121665) ∧
    ofN (q.step u).c = ((c-d)*(a+b)+(c+d)*(a-b))*((c-d)*(a+b)+(c+d)*(a-b)) ∧
    ofN (q.step u).d = ofN u*(((c-d)*(a+b)-(c+d)*(a-b))*((c-d)*(a+b)-(c+d)*(a-b))) := by
  obtain ⟨o1, o2, o3, o4⟩ := ho
  subst ha
  subst hb
  subst hc
  subst hd
  have h5 : ofN 121665 = 121665 := rfl
  unfold Lad.step
  dsimp only
  refine ⟨?_, ?_, ?_, ?_⟩
  · rw [ofN_fm, ofN_fm, ofN_fm, ofN_fa, ofN_fs o2]
  · rw [ofN_fm, ofN_fa, ofN_fm, ofN_fm _ 121665, ofN_fs (fm_lt' _ _), ofN_fm, ofN_fm, ofN_fa, ofN_fs o2, h5]
  · rw [ofN_fm, ofN_fa, ofN_fm, ofN_fm, ofN_fa, ofN_fa, ofN_fs o4, ofN_fs o2]
  · rw [ofN_fm, ofN_fm, ofN_fs (fm_lt' _ _), ofN_fm, ofN_fm, ofN_fa, ofN_fa, ofN_fs o4, ofN_fs o2]
theorem zero_l (a : F) : 0 * a = 0 := by grobner
theorem sgn {k p q r s w : F} (h : (1 - k*(-p)*q*r*s)*w = r*s - (-p)*q) : (1 + k*p*q*r*s)*w = r*s + p*q := by grobner
theorem swp {k p q r s w : F} (h : (1 + k*q*p*s*r)*w = s*r + q*p) : (1 + k*p*q*r*s)*w = r*s + p*q := by grobner
theorem z1 (a : F) : a*(1-1) = 0*(1+1) := by grobner
theorem z2 {σ u y : F} (hs : σ*σ = 1) (h : u*(1-y) = σ*(1+y)) : σ*u*(1-y) = 1*(1+y) := by
  have : σ*u*(1-y) = σ*(u*(1-y)) := by grobner
  rw [this, h]; grobner
/-- the curve of a sign: its constants -/
structure Cur (σ k : F) : Prop where
  s : σ*σ = 1
  ns : NS k
  c0 : σ*486662 + 2 ≠ 0
  kc : k*(σ*486662 + 2) = σ*486662 + 2 - 4
/-- a number of a point -/
structure Num (σ k : F) (P : Pt k) (u : F) : Prop where
  n0 : 1 - P.1.2 ≠ 0
  n1 : 1 + P.1.2 ≠ 0
  eq : u*(1-P.1.2) = σ*(1+P.1.2)
theorem Num.u0 {σ k u : F} {P : Pt k} (h : Num σ k P u) (hs : σ*σ = 1) : u ≠ 0 := fun e => by
  have := h.eq
  rw [e] at this
  have h2 : σ*(1+P.1.2) = 0 := by rw [← this]; exact zero_l _
  exact (f_dvd h2).elim (s_nz hs) h.n1
section
variable {σ k : F} (hC : Cur σ k)
def mulP (n : Nat) (P : Pt k) : Pt k := (EG hC.ns).pw P n
/-- the state stands for two neighbours -/
def St (P : Pt k) (n : Nat) (q : Lad) : Prop := q.ok ∧ Rep σ (mulP hC n P).1.2 (ofN q.a) (ofN q.b) ∧ Rep σ (mulP hC (n + 1) P).1.2 (ofN q.c) (ofN q.d)
theorem dblP (Q : Pt k) : (1 - k*Q.1.1*Q.1.1*Q.1.2*Q.1.2) * (padd hC.ns Q Q).1.2 = Q.1.2*Q.1.2 - Q.1.1*Q.1.1 := addY_eq hC.ns Q.2 Q.2
theorem subP {P Q R : Pt k} (h : R = padd hC.ns P Q) : (1 + k*Q.1.1*R.1.1*Q.1.2*R.1.2) * P.1.2 = Q.1.2*R.1.2 + Q.1.1*R.1.1 := by
  have e : padd hC.ns (pneg Q) R = P := by
    rw [h, padd_comm hC.ns P Q, ← padd_assoc, padd_comm hC.ns (pneg Q) Q, padd_neg, padd_one]
  have := addY_eq hC.ns (pneg Q).2 R.2
  have e2 : addY k (pneg Q).1 R.1 = P.1.2 := by rw [← e]; rfl
  rw [e2] at this
  have q1 : (pneg Q).1.1 = -Q.1.1 := rfl
  have q2 : (pneg Q).1.2 = Q.1.2 := rfl
  rw [q1, q2] at this
  exact sgn this
theorem subP' {P Q R : Pt k} (h : Q = padd hC.ns P R) : (1 + k*Q.1.1*R.1.1*Q.1.2*R.1.2) * P.1.2 = Q.1.2*R.1.2 + Q.1.1*R.1.1 := by
  have := subP hC h
  exact swp this
theorem addP (Q R : Pt k) : (1 - k*Q.1.1*R.1.1*Q.1.2*R.1.2) * (padd hC.ns Q R).1.2 = Q.1.2*R.1.2 - Q.1.1*R.1.1 := addY_eq hC.ns Q.2 R.2
/-- one step: two points whose difference is P -/
theorem step_st {P Q R : Pt k} {u : Nat} (hn : Num σ k P (ofN u)) {q : Lad} (ho : q.ok) (hQ : Rep σ Q.1.2 (ofN q.a) (ofN q.b)) (hR : Rep σ R.1.2 (ofN q.c) (ofN q.d)) (hd : R = padd hC.ns P Q ∨ Q = padd hC.ns P R) :
    (q.step u).ok ∧ Rep σ (padd hC.ns Q Q).1.2 (ofN (q.step u).a) (ofN (q.step u).b) ∧ Rep σ (padd hC.ns Q R).1.2 (ofN (q.step u).c) (ofN (q.step u).d) := by
  obtain ⟨s1, s2, s3, s4⟩ := stepF u q ho rfl rfl rfl rfl
  obtain ⟨m1, hm1, a1, b1⟩ := hQ
  obtain ⟨m2, hm2, c1, d1⟩ := hR
  have hsub : (1 + k*Q.1.1*R.1.1*Q.1.2*R.1.2) * P.1.2 = Q.1.2*R.1.2 + Q.1.1*R.1.1 := hd.elim (subP hC) (subP' hC)
  refine ⟨Lad.step_ok u q, rep_of hC.s ?_ ?_, rep_of hC.s ?_ ?_⟩
  · rw [s1, s2]
    exact dbl_rel hC.s rfl hC.kc Q.2 (ed_d hC.ns Q.2 Q.2) (dblP hC Q) a1 b1
  · rw [s1, s2]
    exact dbl_nz hC.s rfl hC.c0 hm1 a1 b1
  · rw [s3, s4]
    exact add_rel hC.s Q.2 R.2 (ed_b hC.ns Q.2 R.2) (ed_d hC.ns Q.2 R.2) (addP hC Q R) hsub hn.eq hn.n0 a1 b1 c1 d1
  · rw [s3, s4]
    exact add_nz hC.s Q.2 R.2 hsub hn.n0 hn.n1 (hn.u0 hC.s) hm1 hm2 a1 b1 c1 d1
def bitsV : Nat → List Bool → Nat
  | n, [] => n
  | n, t :: ts => bitsV (2 * n + (if t = true then 1 else 0)) ts
theorem mulP_add (m n : Nat) (P : Pt k) : mulP hC (m + n) P = padd hC.ns (mulP hC m P) (mulP hC n P) := (EG hC.ns).pw_add P n m
theorem mulP_succ (n : Nat) (P : Pt k) : mulP hC (n + 1) P = padd hC.ns P (mulP hC n P) := rfl
theorem go_st {P : Pt k} {u : Nat} (hn : Num σ k P (ofN u)) : ∀ (ts : List Bool) (n : Nat) (q : Lad), St hC P n q → St hC P (bitsV n ts) (Lad.go u ts q)
  | [], _, _, h => h
  | t :: ts, n, q, ⟨ho, h1, h2⟩ => by
    rw [Lad.go, bitsV]
    refine go_st hn ts _ _ ?_
    cases t with
    | false =>
      obtain ⟨o, r1, r2⟩ := step_st hC hn ho h1 h2 (.inl (mulP_succ hC n P))
      rw [← mulP_add, show n + n = 2 * n + 0 by omega] at r1
      rw [← mulP_add, show n + (n + 1) = 2 * n + 0 + 1 by omega] at r2
      exact ⟨o, r1, r2⟩
    | true =>
      obtain ⟨o, r1, r2⟩ := step_st hC (q := q.swap) hn ho.swap h2 h1 (.inr (mulP_succ hC n P))
      rw [← mulP_add, show n + 1 + (n + 1) = 2 * n + 1 + 1 by omega] at r1
      rw [← mulP_add, show n + 1 + n = 2 * n + 1 by omega] at r2
      exact ⟨o.swap, r2, r1⟩
theorem start_st {P : Pt k} {u : Nat} (hu : u < PP) (hn : Num σ k P (ofN u)) : St hC P 0 ⟨1, 0, u, 1⟩ := by
  refine ⟨⟨show 1 < PP by decide, show 0 < PP by decide, hu, show 1 < PP by decide⟩, rep_of hC.s ?_ ?_, rep_of hC.s ?_ ?_⟩
  · have e : (mulP hC 0 P).1.2 = 1 := rfl
    rw [e]
    show σ*ofN 1*(1-1) = ofN 0*(1+1)
    have : ofN 0 = 0 := rfl
    rw [this]
    exact z1 _
  · intro h
    exact absurd (show ofN 1 = 0 from h.1) (by decide +kernel)
  · have e : mulP hC (0 + 1) P = P := (EG hC.ns).pw_single P
    rw [e]
    show σ*ofN u*(1-P.1.2) = ofN 1*(1+P.1.2)
    have : ofN 1 = 1 := rfl
    have h2 := hn.eq
    rw [this]
    exact z2 hC.s h2
  · intro h
    exact absurd (show ofN 1 = 0 from h.2) (by decide +kernel)
end
def k1 : F := 20800338683988658368647408995589388737092878452977063003340006470870624536394
def k2 : F := 28692721048178265397853269683490922171210976843790175684556505508326675974058
theorem ns_of (a : F) (n : Nat) (h : a.val = n) (hp : powm PP 255 n hP = PP - 1) : NS a := by
  unfold NS
  rw [f_pw]
  apply Fin.ext
  rw [ofN_val, h, ← powm_eq PP 255 n hP (by decide), hp]
  decide +kernel
theorem not_ns (a : F) (n : Nat) (h : a.val = n) (hp : powm PP 255 n hP = 1) : ¬ NS a := by
  unfold NS
  rw [f_pw]
  intro e
  have e := congrArg Fin.val e
  rw [ofN_val, h, ← powm_eq PP 255 n hP (by decide), hp] at e
  exact absurd e (by decide +kernel)
theorem k1_ns : NS k1 := ns_of _ 20800338683988658368647408995589388737092878452977063003340006470870624536394 rfl (by decide +kernel)
theorem k2_ns : NS k2 := ns_of _ 28692721048178265397853269683490922171210976843790175684556505508326675974058 rfl (by decide +kernel)
theorem cur1 : Cur 1 k1 := ⟨by decide +kernel, k1_ns, by decide +kernel, by decide +kernel⟩
theorem cur2 : Cur (-1) k2 := ⟨by decide +kernel, k2_ns, by decide +kernel, by decide +kernel⟩
theorem ad_ns : NS (486664 * 486660 : F) := ns_of _ 236839902240 rfl (by decide +kernel)
theorem li0 {k x y : F} (h : x*x*(1 - k*(y*y)) = 1 - y*y) : x*x + y*y = 1 + k*(x*x)*(y*y) := by grobner
theorem li2 (a b : F) : a*(1 - b) = a - a*b := by grobner
theorem li3 (u σ : F) : u + σ - (u - σ) = 2*σ := by grobner
theorem li4 (a b : F) : a*(1 + b) = a + a*b := by grobner
theorem li5 (u σ : F) : u + σ + (u - σ) = 2*u := by grobner
theorem li6 {u σ y : F} (h : (u+σ)*y = u - σ) : (u+σ)*(u*(1-y)) = (u+σ)*(σ*(1+y)) := by
  have l1 : (u+σ)*(u*(1-y)) = u*((u+σ) - (u+σ)*y) := by grobner
  have l2 : (u+σ)*(σ*(1+y)) = σ*((u+σ) + (u+σ)*y) := by grobner
  rw [l1, l2, h]; grobner
theorem li7 (u : F) : (2*u + 486662)*(2*u + 486662) = 4*(u*u + 486662*u + 1) + 486664*486660 := by grobner
theorem li8 (u : F) : 1*(1*486662 + 2)*u*(u*u + 486662*u + 1) = 486664*(u*(u*u + 486662*u + 1)) := by grobner
theorem li9 {u : F} (h : u + 1 = 0) : u = -1 := by grobner
theorem li10 (z : F) : 486664*z*(486664*486660) = (486664*486664)*(486660*z) := by grobner
theorem li11 (u : F) : -1*(-1*486662 + 2)*u*(u*u + 486662*u + 1) = 486660*(u*(u*u + 486662*u + 1)) := by grobner
theorem li12 {u : F} (h : u + -1 = 0) : u = 1 := by grobner
theorem zero_r (a : F) : a * 0 = 0 := by grobner
/-- a number that has a point -/
theorem li1 {k c x y w σ u : F} (hs : σ*σ = 1) (hc : k*c = c - 4) (hA : c = σ*486662 + 2) (hw : w = u*u + 486662*u + 1) (hx : w*(x*x) = σ*c*u) (hy : (u+σ)*y = u - σ) (c0 : c ≠ 0) (w0 : w ≠ 0) (n0 : u + σ ≠ 0) :
    x*x + y*y = 1 + k*(x*x)*(y*y) := by
  have a1 : (u+σ)*(u+σ)*(1 - y*y) = 4*(u*σ) := by
    have : (u+σ)*(u+σ)*(1 - y*y) = (u+σ)*(u+σ) - ((u+σ)*y)*((u+σ)*y) := by grobner
    rw [this, hy]; grobner
  have a2 : (u+σ)*(u+σ)*(c*(1 - k*(y*y))) = 4*w := by
    have : (u+σ)*(u+σ)*(c*(1 - k*(y*y))) = (u+σ)*(u+σ)*c - (k*c)*(((u+σ)*y)*((u+σ)*y)) := by grobner
    rw [this, hy, hc, hw, hA]
    have : (u + σ) * (u + σ) * (σ * 486662 + 2) - (σ * 486662 + 2 - 4) * ((u - σ) * (u - σ)) = 4*(u*u) + 4*(σ*σ)*486662*u + 4*(σ*σ) := by grobner
    rw [this, hs]; grobner
  have g : (u+σ)*(u+σ)*(c*w) ≠ 0 := nz_mul (nz_mul n0 n0) (nz_mul c0 w0)
  have fin : (u+σ)*(u+σ)*(c*w)*(x*x*(1 - k*(y*y))) = (u+σ)*(u+σ)*(c*w)*(1 - y*y) := by
    have l1 : (u+σ)*(u+σ)*(c*w)*(x*x*(1 - k*(y*y))) = (w*(x*x))*((u+σ)*(u+σ)*(c*(1 - k*(y*y)))) := by grobner
    have l2 : (u+σ)*(u+σ)*(c*w)*(1 - y*y) = c*w*((u+σ)*(u+σ)*(1 - y*y)) := by grobner
    rw [l1, l2, a1, a2, hx]; grobner
  have := f_cancel g fin
  exact li0 this
theorem lift {σ k u : F} (hC : Cur σ k) (w0 : u*u + 486662*u + 1 ≠ 0) (u0 : u ≠ 0) (n0 : u + σ ≠ 0) (h : SQ (σ*(σ*486662 + 2)*u*(u*u + 486662*u + 1))) : ∃ P : Pt k, Num σ k P u := by
  obtain ⟨s, hs⟩ := h
  obtain ⟨w, hw⟩ : ∃ w, w = u*u + 486662*u + 1 := ⟨_, rfl⟩
  rw [← hw] at hs w0
  have hx : w*((s*finv w)*(s*finv w)) = σ*(σ*486662 + 2)*u := by
    refine f_cancel w0 ?_
    have : w*(w*((s*finv w)*(s*finv w))) = (s*s)*((w*finv w)*(w*finv w)) := by grobner
    rw [this, f_inv w0, hs]; grobner
  have hy : (u+σ)*((u - σ)*finv (u+σ)) = u - σ := q_mul n0
  have on := li1 (x := s*finv w) (y := (u - σ)*finv (u+σ)) hC.s hC.kc rfl hw hx hy hC.c0 w0 n0
  have sn := s_nz hC.s
  refine ⟨⟨(s*finv w, (u - σ)*finv (u+σ)), on⟩, ?_, ?_, ?_⟩
  · intro e
    dsimp only at e
    have : (u+σ)*(1 - (u - σ)*finv (u+σ)) = 2*σ := by
      have : (u+σ)*(1 - (u - σ)*finv (u+σ)) = (u+σ) - (u+σ)*((u - σ)*finv (u+σ)) := li2 _ _
      rw [this, hy]; exact li3 _ _
    rw [e] at this
    exact nz_mul two_nz sn (by rw [← this]; exact zero_r _)
  · intro e
    dsimp only at e
    have : (u+σ)*(1 + (u - σ)*finv (u+σ)) = 2*u := by
      have : (u+σ)*(1 + (u - σ)*finv (u+σ)) = (u+σ) + (u+σ)*((u - σ)*finv (u+σ)) := li4 _ _
      rw [this, hy]; exact li5 _ _
    rw [e] at this
    exact nz_mul two_nz u0 (by rw [← this]; exact zero_r _)
  · dsimp only
    refine f_cancel n0 ?_
    exact li6 hy
theorem num_w (u : F) : u*u + 486662*u + 1 ≠ 0 := fun h => by
  refine ad_ns.not_sq ⟨2*u + 486662, ?_⟩
  have : (2*u + 486662)*(2*u + 486662) = 4*(u*u + 486662*u + 1) + 486664*486660 := li7 u
  rw [this, h]
  decide +kernel
theorem ex_lift {u : F} (u0 : u ≠ 0) : (∃ P : Pt k1, Num 1 k1 P u) ∨ (∃ P : Pt k2, Num (-1) k2 P u) := by
  have w0 := num_w u
  have c1 : (486664 : F) ≠ 0 := by decide +kernel
  have hz : 486664*(u*(u*u + 486662*u + 1)) ≠ 0 := nz_mul c1 (nz_mul u0 w0)
  rcases sq_or hz with h | h
  · left
    refine lift cur1 w0 u0 (fun e => ?_) (by rw [li8]; exact h)
    have : u = -1 := li9 e
    subst this
    exact ad_ns.not_sq (by
      have e : (486664*(-1*((-1)*(-1) + 486662*(-1) + 1)) : F) = 486664*486660 := by decide +kernel
      rw [← e]; exact h)
  · right
    have h2 := NS.mul h ad_ns
    rw [show 486664*(u*(u*u + 486662*u + 1))*(486664*486660) = (486664*486664)*(486660*(u*(u*u + 486662*u + 1))) from li10 _] at h2
    have h2 := sq_div c1 h2
    refine lift cur2 w0 u0 (fun e => ?_) (by rw [li11]; exact h2)
    have : u = 1 := li12 e
    subst this
    have e : (486660*(1*(1*1 + 486662*1 + 1)) : F) = 486664*486660 := by decide +kernel
    rw [e] at h2
    exact ad_ns.not_sq h2
abbrev lN : Nat := 7237005577332262213973186563042994240857116359379907606001950938285454250989
abbrev tN : Nat := 14474011154664524427946373126085988481603263447650325797860494125407373907997
def toBits (n : Nat) : Nat → List Bool
  | 0 => []
  | k + 1 => (n / 2 ^ k % 2 == 1) :: toBits n k
theorem bitsV_to (n : Nat) : ∀ k m, bitsV m (toBits n k) = m * 2 ^ k + n % 2 ^ k
  | 0, m => by rw [toBits, bitsV, Nat.pow_zero, Nat.mul_one, Nat.mod_one, Nat.add_zero]
  | k + 1, m => by
    rw [toBits, bitsV, bitsV_to n k, Nat.pow_succ, Nat.mod_mul, Nat.add_mul]
    have : n / 2 ^ k % 2 = 0 ∨ n / 2 ^ k % 2 = 1 := Nat.mod_two_eq_zero_or_one _
    rcases this with h | h
    · rw [h, if_neg (by decide)]
      rw [Nat.mul_comm 2 m, Nat.mul_assoc, Nat.mul_comm 2 (2 ^ k)]; omega
    · rw [h, if_pos (by decide)]
      rw [Nat.mul_comm 2 m, Nat.mul_assoc, Nat.mul_comm 2 (2 ^ k)]; omega
theorem li12' {u : F} (h : 1 - u = 0) : u = 1 := by grobner
theorem li13 {k x : F} (h : x*x + 1*1 = 1 + k*(x*x)*(1*1)) : x*x*(1 - k*(1*1)) = 0 := by grobner
theorem li14 {u : F} (h : 1 + u = 0) : u = -1 := by grobner
theorem li15 {k x : F} (h : x*x + (-1)*(-1) = 1 + k*(x*x)*((-1)*(-1))) : x*x*(1 - k*((-1)*(-1))) = 0 := by grobner
theorem li16 {k w : F} (h : (1 - k*0*0*(-1)*(-1))*w = (-1)*(-1) - 0*0) : 1 - w = 0 := by grobner
theorem li17 (m : F) : m * (1 - 1) = 0 := by grobner
theorem li18 (a b : F) : a * b = b * a := by grobner
theorem li19 (m X z y : F) : m*(X*z*(1-y)) = X*z*(m*(1-y)) := by grobner
theorem li20 (X z w : F) : X*z*w = X*(w*z) := by grobner
theorem li21 (σ m y : F) : σ*m*(1+y)*1 = m*(σ*(1+y)) := by grobner
theorem li22 {a b c : F} (h : a*c = b*c) : c*a = c*b := by grobner
theorem pt_one {σ k : F} (hC : Cur σ k) (P : Pt k) (h : 1 - P.1.2 = 0) : P = pone k := by
  have hy : P.1.2 = 1 := li12' h
  have hp := P.2
  unfold On at hp
  rw [hy] at hp
  have hz : P.1.1*P.1.1*(1 - k*(1*1)) = 0 := li13 hp
  have := ky_nz (y := 1) hC.ns
  exact pt_ext (sq_nz ((f_dvd hz).resolve_right this)) hy
theorem pt_two {σ k : F} (hC : Cur σ k) (P : Pt k) (h : 1 + P.1.2 = 0) : padd hC.ns P P = pone k := by
  refine pt_one hC _ ?_
  have hy : P.1.2 = -1 := li14 h
  have hp := P.2
  unfold On at hp
  rw [hy] at hp
  have hz : P.1.1*P.1.1*(1 - k*((-1)*(-1))) = 0 := li15 hp
  have := ky_nz (y := -1) hC.ns
  have hx := sq_nz ((f_dvd hz).resolve_right this)
  have hd := dblP hC P
  rw [hx, hy] at hd
  exact li16 hd
theorem ofN_z {n : Nat} (h : n < PP) (e : ofN n = 0) : n = 0 := by
  have := congrArg Fin.val e
  rw [ofN_val, Nat.mod_eq_of_lt h] at this
  exact this
theorem ofN_inj {m n : Nat} (hm : m < PP) (hn : n < PP) (e : ofN m = ofN n) : m = n := by
  have := congrArg Fin.val e
  rw [ofN_val, ofN_val, Nat.mod_eq_of_lt hm, Nat.mod_eq_of_lt hn] at this
  exact this
section
variable {σ k : F} (hC : Cur σ k) {P : Pt k} {u : Nat}
theorem run_st (hu : u < PP) (hn : Num σ k P (ofN u)) (ts : List Bool) : St hC P (bitsV 0 ts) (Lad.go u ts ⟨1, 0, u, 1⟩) := go_st hC hn ts 0 _ (start_st hC hu hn)
theorem run_one (hu : u < PP) (hn : Num σ k P (ofN u)) (ts : List Bool) : (Lad.go u ts ⟨1, 0, u, 1⟩).b = 0 ↔ mulP hC (bitsV 0 ts) P = pone k := by
  obtain ⟨ho, ⟨m, hm, h1, h2⟩, _⟩ := run_st hC hu hn ts
  constructor
  · intro e
    rw [e] at h2
    have h2 : m * (1 - (mulP hC (bitsV 0 ts) P).1.2) = 0 := h2.symm
    exact pt_one hC _ ((f_dvd h2).resolve_left hm)
  · intro e
    rw [e] at h2
    refine ofN_z ho.2.1 (h2.trans ?_)
    show m * (1 - 1) = 0
    exact li17 m
theorem powS_F (a : Nat) : ∀ (ts : List Bool) (o n : Nat), ofN o = MF.pw (ofN a) n → ofN (powS a ts o) = MF.pw (ofN a) (bitsV n ts)
  | [], o, n, h => h
  | t :: ts, o, n, h => by
    rw [powS, bitsV]
    have h2 : ofN (fm o o) = MF.pw (ofN a) (2 * n) := by
      rw [ofN_fm, h, show 2 * n = n + n by omega, MF.pw_add]
      rfl
    cases t with
    | false => exact powS_F a ts _ _ (by rw [if_neg (by decide), if_neg (by decide)]; exact h2)
    | true =>
      refine powS_F a ts _ _ ?_
      rw [if_pos rfl, if_pos rfl, ofN_fm, h2, pw_s]
      exact li18 _ _
theorem invS_F (a : Nat) : ofN (invS a) = finv (ofN a) := by
  unfold invS finv
  rw [powS_F a invBits 1 0 rfl, show bitsV 0 invBits = iP by decide +kernel]
theorem resS_lt (ts : List Bool) : resS ts u < PP := Nat.mod_lt _ (by decide)
/-- the result of a ladder that has one -/
theorem res_num (hu : u < PP) (hn : Num σ k P (ofN u)) (ts : List Bool) (h : (Lad.go u ts ⟨1, 0, u, 1⟩).b ≠ 0) : ofN (resS ts u) * (1 - (mulP hC (bitsV 0 ts) P).1.2) = σ * (1 + (mulP hC (bitsV 0 ts) P).1.2) := by
  obtain ⟨ho, ⟨m, hm, h1, h2⟩, _⟩ := run_st hC hu hn ts
  have hz : ofN (Lad.go u ts ⟨1, 0, u, 1⟩).b ≠ 0 := fun e => h (ofN_z ho.2.1 e)
  unfold resS
  rw [ofN_fm, invS_F]
  have hi := f_inv hz
  generalize ofN (Lad.go u ts ⟨1, 0, u, 1⟩).b = Z at *
  generalize ofN (Lad.go u ts ⟨1, 0, u, 1⟩).a = X at *
  generalize (mulP hC (bitsV 0 ts) P).1.2 = y at *
  refine f_cancel hm ?_
  have e1 : m*(X*finv Z*(1-y)) = X*finv Z*(m*(1-y)) := li19 _ _ _ _
  rw [e1, ← h2, show X*finv Z*Z = X*(Z*finv Z) from li20 _ _ _, hi, h1]
  exact li21 _ _ _
end
/-- a curve on which 8 l annuls every point -/
structure Cur8 (σ k : F) : Prop where
  c : Cur σ k
  ex : ∃ l, Pr l ∧ 2 ^ 252 < l ∧ ∀ P : Pt k, mulP c (8 * l) P = pone k
theorem mulP_pw {σ k : F} (hC : Cur σ k) (m n : Nat) (P : Pt k) : mulP hC (m * n) P = mulP hC n (mulP hC m P) := (EG hC.ns).pw_mul P m n
theorem mulP_one {σ k : F} (hC : Cur σ k) (n : Nat) : mulP hC n (pone k) = pone k := (EG hC.ns).pw_one n
theorem ann {σ k : F} (h8 : Cur8 σ k) (P : Pt k) (n c : Nat) (hn : 0 < n) (hn2 : n < 2 ^ 252) (hc : 0 < c) (hc2 : c ≤ 16) (h : mulP h8.c (8 * (n * c)) P = pone k) : mulP h8.c 8 P = pone k := by
  obtain ⟨l, hl, hl2, ha⟩ := h8.ex
  have hg := (EG h8.c.ns).pw_gcd P _ _ h (ha P)
  have hcop : Nat.gcd (8 * (n * c)) (8 * l) = 8 := by
    rw [Nat.gcd_mul_left]
    have : Nat.Coprime l (n * c) := hl.cop fun hd => by
      rcases hl.dvd hd with h | h
      · have := Nat.le_of_dvd hn h; omega
      · have := Nat.le_of_dvd hc h
        have : (2 : Nat) ^ 252 > 16 := by decide
        omega
    rw [show Nat.gcd (n * c) l = 1 from this.symm]
  rw [hcop] at hg
  exact hg
theorem cur8_1 : Cur8 1 k1 := by
  refine ⟨cur1, lN, pr_l, by decide, ?_⟩
  obtain ⟨N, hN0, hN, hA⟩ := ex_order cur1.ns
  obtain ⟨P, hP⟩ : ∃ P : Pt k1, Num 1 k1 P (ofN 6) := by
    have u0 : ofN 6 ≠ 0 := by decide +kernel
    have hz : 486664*(ofN 6*(ofN 6*ofN 6 + 486662*ofN 6 + 1)) ≠ 0 := by decide +kernel
    have hs := (sq_or hz).resolve_right (not_ns _ 8526379559856 (by decide +kernel) (by decide +kernel)) 
    exact lift cur1 (num_w _) u0 (by decide +kernel) (by rw [li8]; exact hs)
  have r1 := (run_one cur1 (by decide) hP (toBits (8 * lN) 256)).1 (by decide +kernel)
  have r2 := mt (run_one cur1 (by decide) hP (toBits (4 * lN) 256)).2 (by decide +kernel)
  have r3 := mt (run_one cur1 (by decide) hP (toBits 8 256)).2 (by decide +kernel)
  rw [bitsV_to] at r1 r2 r3
  have hd := ord_dvd (EG cur1.ns) P lN N 2 pr_l (by decide) r1 r2 r3 (hA P)
  obtain ⟨c, rfl⟩ := hd
  intro Q
  have : c = 1 := by
    have : c < 2 := Classical.byContradiction fun h => by
      have : 2 ^ (2 + 1) * lN * 2 ≤ 2 ^ (2 + 1) * lN * c := Nat.mul_le_mul_left _ (by omega)
      have e : 2 ^ (2 + 1) * lN * 2 > 2 * PP := by decide
      omega
    rcases Nat.eq_zero_or_pos c with h | h
    · subst h; omega
    · omega
  subst this
  have := hA Q
  rw [Nat.mul_one] at this
  exact this
theorem cur8_2 : Cur8 (-1) k2 := by
  refine ⟨cur2, tN, pr_t, by decide, ?_⟩
  obtain ⟨N, hN0, hN, hA⟩ := ex_order cur2.ns
  obtain ⟨P, hP⟩ : ∃ P : Pt k2, Num (-1) k2 P (ofN 3) := by
    have u0 : ofN 3 ≠ 0 := by decide +kernel
    have hz : 486660*(ofN 3*(ofN 3*ofN 3 + 486662*ofN 3 + 1)) ≠ 0 := by decide +kernel
    have hs := (sq_or hz).resolve_right (not_ns _ 2131564960080 (by decide +kernel) (by decide +kernel)) 
    exact lift cur2 (num_w _) u0 (by decide +kernel) (by rw [li11]; exact hs)
  have r1 := (run_one cur2 (by decide) hP (toBits (4 * tN) 256)).1 (by decide +kernel)
  have r2 := mt (run_one cur2 (by decide) hP (toBits (2 * tN) 256)).2 (by decide +kernel)
  have r3 := mt (run_one cur2 (by decide) hP (toBits 4 256)).2 (by decide +kernel)
  rw [bitsV_to] at r1 r2 r3
  have hd := ord_dvd (EG cur2.ns) P tN N 1 pr_t (by decide) r1 r2 r3 (hA P)
  obtain ⟨c, rfl⟩ := hd
  intro Q
  have hc : c = 1 ∨ c = 2 := by
    have : c < 3 := Classical.byContradiction fun h => by
      have : 2 ^ (1 + 1) * tN * 3 ≤ 2 ^ (1 + 1) * tN * c := Nat.mul_le_mul_left _ (by omega)
      have e : 2 ^ (1 + 1) * tN * 3 > 2 * PP := by decide
      omega
    rcases Nat.eq_zero_or_pos c with h | h
    · subst h; omega
    · omega
  have hq := hA Q
  rcases hc with rfl | rfl
  · rw [show 8 * tN = 2 ^ (1 + 1) * tN * 1 * 2 by decide, mulP_pw]
    show mulP cur2 2 ((EG cur2.ns).pw Q _) = _
    rw [hq, mulP_one]
  · exact hq
/-- clamped bits -/
theorem clamp_val (ts : List Bool) (h : ts.length = 251) : ∃ n, bitsV 0 (true :: (ts ++ [false, false, false])) = 8 * n ∧ 0 < n ∧ n < 2 ^ 252 := by
  have app : ∀ (a b : List Bool) (m : Nat), bitsV m (a ++ b) = bitsV (bitsV m a) b := by
    intro a
    induction a with
    | nil => intro b m; rfl
    | cons t a ih => intro b m; rw [List.cons_append, bitsV, bitsV, ih]
  have bd : ∀ (a : List Bool) (m : Nat), m * 2 ^ a.length ≤ bitsV m a ∧ bitsV m a < (m + 1) * 2 ^ a.length := by
    intro a
    induction a with
    | nil => intro m; rw [bitsV, List.length_nil, Nat.pow_zero]; omega
    | cons t a ih =>
      intro m
      rw [bitsV, List.length_cons, Nat.pow_succ]
      obtain ⟨h1, h2⟩ := ih (2 * m + (if t = true then 1 else 0))
      have e0 : (if t = true then 1 else 0 : Nat) ≤ 1 := by split <;> omega
      generalize (if t = true then 1 else 0 : Nat) = e at *
      have i1 : 2 * m * 2 ^ a.length ≤ (2 * m + e) * 2 ^ a.length := Nat.mul_le_mul_right _ (by omega)
      have i2 : (2 * m + e + 1) * 2 ^ a.length ≤ (2 * (m + 1)) * 2 ^ a.length := Nat.mul_le_mul_right _ (by omega)
      have j1 : m * (2 ^ a.length * 2) = 2 * m * 2 ^ a.length := by rw [Nat.mul_comm 2 m, Nat.mul_assoc, Nat.mul_comm 2]
      have j2 : (m + 1) * (2 ^ a.length * 2) = 2 * (m + 1) * 2 ^ a.length := by rw [Nat.mul_comm 2 (m + 1), Nat.mul_assoc, Nat.mul_comm 2]
      omega
  refine ⟨bitsV 1 ts, ?_, ?_, ?_⟩
  · rw [bitsV, app]
    show 2 * (2 * (2 * bitsV 1 ts + 0) + 0) + 0 = _
    omega
  · have := (bd ts 1).1
    rw [h] at this
    have : (0 : Nat) < 1 * 2 ^ 251 := by decide
    omega
  · have := (bd ts 1).2
    rw [h] at this
    have e : (1 + 1) * 2 ^ 251 = 2 ^ 252 := by decide
    omega
section
variable {σ k : F} (h8 : Cur8 σ k) {P : Pt k} {u : Nat}
theorem cl_zero (hu : u < PP) (hn : Num σ k P (ofN u)) (ts : List Bool) (h : ts.length = 251) : resS (true :: (ts ++ [false, false, false])) u = 0 ↔ mulP h8.c 8 P = pone k := by
  obtain ⟨n, hv, hn0, hn2⟩ := clamp_val ts h
  have key : (Lad.go u (true :: (ts ++ [false, false, false])) ⟨1, 0, u, 1⟩).b = 0 ↔ mulP h8.c 8 P = pone k := by
    rw [run_one h8.c hu hn, hv]
    constructor
    · intro e
      exact ann h8 P n 1 hn0 hn2 (by decide) (by decide) (by rw [Nat.mul_one]; exact e)
    · intro e
      rw [mulP_pw, e, mulP_one]
  constructor
  · intro e
    refine Classical.byContradiction fun h1 => ?_
    have hb := mt key.1 h1
    have hr := res_num h8.c hu hn _ hb
    rw [e, show ofN 0 = 0 from rfl, zero_l, hv] at hr
    have hy := (f_dvd hr.symm).resolve_left (s_nz h8.c.s)
    have h2 := pt_two h8.c _ hy
    rw [← mulP_add, show 8 * n + 8 * n = 8 * (n * 2) by omega] at h2
    exact h1 (ann h8 P n 2 hn0 hn2 (by decide) (by decide) h2)
  · intro e
    exact res_none (key.2 e)
theorem cl_num (hu : u < PP) (hn : Num σ k P (ofN u)) (ts : List Bool) (h : ts.length = 251) (h1 : mulP h8.c 8 P ≠ pone k) : Num σ k (mulP h8.c (bitsV 0 (true :: (ts ++ [false, false, false]))) P) (ofN (resS (true :: (ts ++ [false, false, false])) u)) := by
  obtain ⟨n, hv, hn0, hn2⟩ := clamp_val ts h
  have hb : (Lad.go u (true :: (ts ++ [false, false, false])) ⟨1, 0, u, 1⟩).b ≠ 0 := fun e => by
    rw [run_one h8.c hu hn, hv] at e
    exact h1 (ann h8 P n 1 hn0 hn2 (by decide) (by decide) (by rw [Nat.mul_one]; exact e))
  refine ⟨fun e => ?_, fun e => ?_, res_num h8.c hu hn _ hb⟩
  · have := pt_one h8.c _ e
    rw [hv] at this
    exact h1 (ann h8 P n 1 hn0 hn2 (by decide) (by decide) (by rw [Nat.mul_one]; exact this))
  · have h2 := pt_two h8.c _ e
    rw [hv, ← mulP_add, show 8 * n + 8 * n = 8 * (n * 2) by omega] at h2
    exact h1 (ann h8 P n 2 hn0 hn2 (by decide) (by decide) h2)
theorem num_uniq {Q : Pt k} {a b : F} (ha : Num σ k Q a) (hb : Num σ k Q b) : a = b := by
  refine f_cancel ha.n0 ?_
  have e1 := ha.eq
  have e2 := hb.eq
  rw [← e1] at e2
  exact li22 e2.symm
theorem two_cl (hu : u < PP) (hn : Num σ k P (ofN u)) (ts ss : List Bool) (ht : ts.length = 251) (hs : ss.length = 251) (h1 : mulP h8.c 8 P ≠ pone k) :
    resS (true :: (ss ++ [false, false, false])) (resS (true :: (ts ++ [false, false, false])) u) ≠ 0 ∧
    resS (true :: (ss ++ [false, false, false])) (resS (true :: (ts ++ [false, false, false])) u) = resS (true :: (ts ++ [false, false, false])) (resS (true :: (ss ++ [false, false, false])) u) := by
  have gen : ∀ ts ss : List Bool, ts.length = 251 → ss.length = 251 → mulP h8.c 8 (mulP h8.c (bitsV 0 (true :: (ts ++ [false, false, false]))) P) ≠ pone k ∧ Num σ k (mulP h8.c (bitsV 0 (true :: (ts ++ [false, false, false])) * bitsV 0 (true :: (ss ++ [false, false, false]))) P) (ofN (resS (true :: (ss ++ [false, false, false])) (resS (true :: (ts ++ [false, false, false])) u))) := by
    intro ts ss ht hs
    have n1 := cl_num h8 hu hn ts ht h1
    have nz : mulP h8.c 8 (mulP h8.c (bitsV 0 (true :: (ts ++ [false, false, false]))) P) ≠ pone k := fun e => by
      obtain ⟨n, hv, hn0, hn2⟩ := clamp_val ts ht
      rw [hv, ← mulP_pw, show 8 * n * 8 = 8 * (n * 8) by omega] at e
      exact h1 (ann h8 P n 8 hn0 hn2 (by decide) (by decide) e)
    have n2 := cl_num h8 (resS_lt _) n1 ss hs nz
    rw [← mulP_pw] at n2
    exact ⟨nz, n2⟩
  obtain ⟨z1, n1⟩ := gen ts ss ht hs
  obtain ⟨z2, n2⟩ := gen ss ts hs ht
  refine ⟨fun e => ?_, ?_⟩
  · exact z1 ((cl_zero h8 (resS_lt _) (cl_num h8 hu hn ts ht h1) ss hs).1 e)
  · rw [Nat.mul_comm] at n2
    exact ofN_inj (resS_lt _) (resS_lt _) (num_uniq n1 n2)
end
/-- two clamped secrets, any number: the result is none for both, or for none, and their order does not matter -/
theorem order_ok (ts ss : List Bool) (ht : ts.length = 251) (hs : ss.length = 251) (u : Nat) (hu : u < PP) :
    (resS (true :: (ts ++ [false, false, false])) u = 0 ↔ resS (true :: (ss ++ [false, false, false])) u = 0) ∧
    (resS (true :: (ts ++ [false, false, false])) u ≠ 0 →
      resS (true :: (ss ++ [false, false, false])) (resS (true :: (ts ++ [false, false, false])) u) ≠ 0 ∧
      resS (true :: (ss ++ [false, false, false])) (resS (true :: (ts ++ [false, false, false])) u) = resS (true :: (ts ++ [false, false, false])) (resS (true :: (ss ++ [false, false, false])) u)) := by
  by_cases h0 : u = 0
  · subst h0
    exact ⟨⟨fun _ => res_zero _, fun _ => res_zero _⟩, fun h => absurd (res_zero _) h⟩
  · have hz : ofN u ≠ 0 := fun e => h0 (ofN_z hu e)
    have main : ∀ {σ k : F} (h8 : Cur8 σ k) (P : Pt k), Num σ k P (ofN u) →
        ((resS (true :: (ts ++ [false, false, false])) u = 0 ↔ resS (true :: (ss ++ [false, false, false])) u = 0) ∧
    (resS (true :: (ts ++ [false, false, false])) u ≠ 0 →
      resS (true :: (ss ++ [false, false, false])) (resS (true :: (ts ++ [false, false, false])) u) ≠ 0 ∧
      resS (true :: (ss ++ [false, false, false])) (resS (true :: (ts ++ [false, false, false])) u) = resS (true :: (ts ++ [false, false, false])) (resS (true :: (ss ++ [false, false, false])) u))) := fun {σ k} h8 P hn => And.intro ((cl_zero h8 hu hn ts ht).trans (cl_zero h8 hu hn ss hs).symm) (fun h => two_cl h8 hu hn ts ss ht hs (fun e => h ((cl_zero h8 hu hn ts ht).2 e)))
    rcases ex_lift hz with ⟨P, hP⟩ | ⟨P, hP⟩
    · exact main cur8_1 P hP
    · exact main cur8_2 P hP
theorem base_ok (ts : List Bool) (ht : ts.length = 251) : resS (true :: (ts ++ [false, false, false])) 9 ≠ 0 := by
  have hu : 9 < PP := by decide
  have hz : ofN 9 ≠ 0 := by decide +kernel
  have main : ∀ {σ k : F} (h8 : Cur8 σ k) (P : Pt k), Num σ k P (ofN 9) → resS (true :: (ts ++ [false, false, false])) 9 ≠ 0 := fun {σ k} h8 P hn e => by
    have := (cl_zero h8 hu hn ts ht).1 e
    have h2 := (run_one h8.c hu hn [true, false, false, false]).2 this
    exact absurd h2 (by decide +kernel)
  rcases ex_lift hz with ⟨P, hP⟩ | ⟨P, hP⟩
  · exact main cur8_1 P hP
  · exact main cur8_2 P hP
end Go.Proofs.Ytejphmgpndgliaa.GA
