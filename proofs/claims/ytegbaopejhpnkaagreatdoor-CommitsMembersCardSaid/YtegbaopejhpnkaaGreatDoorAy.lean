/- Part of the proof that the law CommitsMembers holds. -/
import Derived.Test.YtegbaopejhpnkaaGreatDoorAa
import Derived.Test.YtegbaopejhpnkaaGreatDoorAh
import Derived.Test.YtegbaopejhpnkaaGreatDoorAn
import Derived.Test.YtegbaopejhpnkaaGreatDoorAx
namespace Go.Chx
open Go Go.Proofs
set_option maxHeartbeats 1000000
set_option maxRecDepth 4000
theorem and_one (m:Nat):m &&& 1=m % 2:=Nat.and_one_is_mod m
theorem sg_xor {n:Int} (hn : -9223372036854775808≤n∧n≤9223372036854775807) :
  bits .xor .i64 (IntKind.wrap .i64 ((zz n / 2 ^ 1:Nat):Int)) (IntKind.wrap .i64 (0-IntKind.wrap .i64 ((zz n &&& 1:Nat):Int)))=n:=by
 rw [and_one]
 have p1:(2:Nat) ^ 1=2:=rfl
 rw [p1]
 have hw:∀ m:Int,IntKind.wrap .i64 m=if m % 18446744073709551616 < 9223372036854775808 then m % 18446744073709551616 else m % 18446744073709551616-18446744073709551616:=fun m=>by
  simp only [IntKind.wrap,IntKind.bits,IntKind.signed,Bool.true_and]
  split <;> rename_i h <;> simp at h <;> split <;> omega
 by_cases h0:0≤n
 ·have hz:zz n=(2*n).toNat:=by unfold zz; rw [if_pos h0]
  have e1:zz n % 2=0:=by omega
  have e2:((zz n / 2:Nat):Int)=n:=by omega
  rw [e1,e2,Dr hn]
  show IntKind.wrap .i64 ((BitVec.ofInt 64 n ^^^ BitVec.ofInt 64 (IntKind.wrap .i64 (0-IntKind.wrap .i64 ((0:Nat):Int)))).toNat:Int)=n
  have e4:BitVec.ofInt 64 (IntKind.wrap .i64 (0-IntKind.wrap .i64 ((0:Nat):Int)))=0#64:=by decide
  rw [e4,BitVec.xor_zero,BitVec.toNat_ofInt,hw]
  have:((2:Nat) ^ 64:Nat)=18446744073709551616:=rfl
  rw [this]
  split <;> omega
 ·have hz:zz n=(-2*n-1).toNat:=by unfold zz; rw [if_neg h0]
  have e1:zz n % 2=1:=by omega
  have e2:((zz n / 2:Nat):Int) = -n-1:=by omega
  rw [e1,e2,Dr (by omega)]
  show IntKind.wrap .i64 ((BitVec.ofInt 64 (-n-1) ^^^ BitVec.ofInt 64 (IntKind.wrap .i64 (0-IntKind.wrap .i64 ((1:Nat):Int)))).toNat:Int)=n
  have e4:BitVec.ofInt 64 (IntKind.wrap .i64 (0-IntKind.wrap .i64 ((1:Nat):Int)))=BitVec.allOnes 64:=by decide
  rw [e4,BitVec.xor_allOnes,BitVec.toNat_not,BitVec.toNat_ofInt,hw]
  have:((2:Nat) ^ 64:Nat)=18446744073709551616:=rfl
  rw [this]
  split <;> omega
theorem signed_spec (n:Int) (hn : -9223372036854775808≤n∧n≤9223372036854775807):Ay Tryz.prog 151 [.int .u64 (zz n:Int)] [] (fun _=>True) (fun _:Unit=>⟨True,iv n,[],fun _=>True⟩):=by
 refine Aj Tryz.func151 Z Z fun X w0=>?_
 have hz:=zz_lt hn
 refine Ab (Aa (oj (Ak Z Z (on (qn (Ab (Aa (oj (mv Z Z (oj (shrN (b:=1) Z Z Z Z Z (by omega) (oj (Ig Z Tryz.underlying205 Tryz.underlying3 Z (oj (mv Z Z (oj (andN (b:=1) Z Z Z Z Z (by omega) (oj (Ig Z Tryz.underlying205 Tryz.underlying3 Z (oj (negw Z Z (oj (bxor Z Z Z (Ac (d:=10) (v:=iv n) Z (by rw [sg_xor hn]) ?_))))))))))))))))))))))))
 exact oj (Ak Z Z (on (qn (Af (As () Z (.tmp Z .nil) Z tR .slnil (fun w h=>tR) (.inl Z))))))
theorem numB_cons (u:Nat):∃ c r,Dx u=c::r∧c.toNat=(if u < 128 then u else u % 128+128)∧r=(if u < 128 then [] else Dx (u / 128)):=by
 rw [Dx]
 split
 ·rename_i h; exact ⟨_,_,rfl,by simp; omega,rfl⟩
 ·rename_i h
  refine ⟨_,_,Z,?_,Z⟩
  have:u % 128 < 128:=Nat.mod_lt _ (by decide)
  simp; omega
theorem numB_case (v:Nat):∃ b r,Dx v=b::r∧((v < 128∧b.toNat=v∧r=[])∨(¬ v < 128∧b.toNat=v % 128+128∧r=Dx (v / 128))):=by
 obtain ⟨b,r,h1,h2,h3⟩:=numB_cons v
 refine ⟨b,r,h1,?_⟩
 by_cases h:v < 128
 ·rw [if_pos h] at h2 h3; exact .inl ⟨h,h2,h3⟩
 ·rw [if_neg h] at h2 h3; exact .inr ⟨h,h2,h3⟩
theorem div9 {u i:Nat} (hu:u < 18446744073709551616) (hi:i=9):u / 128 ^ i≤1:=by
 subst hi
 have:(128:Nat) ^ 9=9223372036854775808:=rfl
 rw [this]; omega
theorem and127 {m:Nat} (h:m < 256):bits .and .u8 (m:Int) 127=((m % 128:Nat):Int):=by
 have:(List.range 256).all (fun m=>bits .and .u8 (m:Int) 127 == ((m % 128:Nat):Int))=true:=by kernel_rfl
 have:=List.all_eq_true.1 this m (List.mem_range.2 h)
 simpa using this
theorem p128 (i:Nat):(128:Nat) ^ i=2 ^ (7*i):=by rw [Nat.pow_mul]
theorem num_sh {u i v b:Nat} (hv:v=u / 128 ^ i) (hu:u < 18446744073709551616) (hb:b % 128=v % 128):b % 128*2 ^ (7*i) % 18446744073709551616=128 ^ i*(v % 128):=by
 have h1:128 ^ i*(v % 128)≤u:=by
  refine Nat.le_trans (Nat.mul_le_mul_left _ (Nat.mod_le _ _)) ?_
  rw [hv]; exact Nat.mul_div_le _ _
 rw [← p128,hb,Nat.mul_comm,Nat.mod_eq_of_lt (by omega)]
theorem mod_step (u i:Nat):u % 128 ^ (i+1)=u % 128 ^ i+128 ^ i*((u / 128 ^ i) % 128):=by
 rw [Nat.pow_succ,Nat.mod_mul]
theorem Gq {u i v:Nat} (hv:v=u / 128 ^ i):u / 128 ^ (i+1)=v / 128:=by rw [Nat.pow_succ,← Nat.div_div_eq_div_mul,← hv]
theorem mod_all {u i v:Nat} (hv:v=u / 128 ^ i) (h:v < 128):u % 128 ^ (i+1)=u:=by
 refine Nat.mod_eq_of_lt ?_
 rw [Nat.pow_succ,Nat.mul_comm]
 rw [hv] at h
 exact (Nat.div_lt_iff_lt_mul (Nat.pow_pos (by decide))).1 h
theorem num_or {u i v:Nat} (hv:v=u / 128 ^ i):u % 128 ^ i ||| 128 ^ i*(v % 128)=u % 128 ^ (i+1):=by
 have h1:u % 128 ^ i < 2 ^ (7*i):=by rw [← p128]; exact Nat.mod_lt _ (Nat.pow_pos (by decide))
 have:=Nat.two_pow_add_eq_or_of_lt h1 (v % 128)
 rw [mod_step,← hv,Nat.or_comm,Nat.add_comm]
 rw [p128] at this ⊢
 exact this.symm
theorem rnumber_spec (q:Nat) (a:Option Addr) (c:Nat) (u:Nat) (hu:u < 18446744073709551616) (rest:List UInt8) (hl:(Dx u++rest).length≤1000000000000):Ay Tryz.prog 152 [Bg q 0] [rdE q a (Dx u++rest).length c] (fun w=>rdF a c (Dx u++rest) w∧True) (fun x:Option Addr × Nat=>⟨rest.length≤x.2,.int .u64 (u:Int),[rdE q x.1 rest.length x.2],fun w=>rdF x.1 x.2 rest w∧True⟩):=by
 refine Aj Tryz.func152 Z Z fun X w0=>(Ab (Aa (oj (Ak Z Z (on (qn (Ab (Aa (oj (Ak Z Z (on (qn (Ag (Ac (d:=2) (v:=.int .u64 ((u % 128 ^ 0:Nat):Int)) Z (by rw [Nat.pow_zero,Nat.mod_one]; rfl) (Aw (fun (sT:(Nat) × (List UInt8) × (Option Addr) × (Nat))=>(⟨sT.1≤9∧(sT.1=0∨0 < u / 128 ^ sT.1)∧sT.2.1.length≤1000000000000∧sT.2.1=Dx (u / 128 ^ sT.1)++rest,[(0,Bg q 0),(2,.int .u64 ((u % 128 ^ sT.1:Nat):Int)),(3,iv (sT.1:Int))],[rdE q sT.2.2.1 sT.2.1.length sT.2.2.2],fun w=>rdF sT.2.2.1 sT.2.2.2 sT.2.1 w∧True,10-sT.1⟩:Hd)) (0,_,a,c) (⟨Nat.zero_le _,.inl Z,hl,by simp⟩) (⟨Z,Z,Z,tR⟩) (.refl _) (fun w h=>⟨(h.1),tR⟩) ?_)))))))))))))))
 rintro ⟨i,bs,ra,rc⟩ ⟨hi,hz,hl,hbs⟩
 try dsimp only
 try dsimp only at hi hz hl hbs
 obtain ⟨v,hv⟩:∃ v,v=u / 128 ^ i:=⟨_,rfl⟩
 have h9:i=9→v≤1:=fun h=>hv ▸ div9 hu h
 rw [← hv] at hz hbs
 obtain ⟨b,r,hnb,hb⟩:=numB_case v
 rw [hnb] at hbs
 subst hbs
 have hb8:=b.toNat_lt
 refine Ab (Ag (Ab (Aa (oj (mv Z Z (oj (Ce Z Z (.cons Z (.cons Z .nil)) fb_150 (Kd q ra rc [b] (r++rest) hl) (fun _=>.head) (fun _=>Z) (fun w h=>⟨(h.1),tR⟩) ?_)))))))
 rintro ⟨xa,ra2,rc2⟩ hrc2
 try dsimp only at hrc2
 try dsimp only
 refine oj (Fc Z Z Z Tryz.underlying53 Bv (⟨by decide,by simp⟩) (fun w h=>Sl.some (h.1.1) (by simp)) (oj (A4 Z Z Bv (fun w h=>(Sl.elem1 (h.1.1) (show (An [b])[0]? = some (.int .u8 (b.toNat:Int)) from Z))) (oj (Ak Z Z (on (qn (Ab (Aa (oj (mv Z Z (oj (mv Z Z (oj (Eu Z Z Z (oj (mv Z Z ?_)))))))))))))))))
 refine Kh (d:=14) Z (fun ht=>?_) (fun hf=>?_)
 ·refine oj (gf Z Z Z Z Z Z (oj (gf Z Z Z Z Z Z (oj (Cl Z Z Z (oj (mv Z Z (oj (gt Z Z Z ((mv Z Z (oj (gt Z Z Z ((Dd Z Z Z (oj (gt Z Z Z ((mv Z Z ?_)))))))))))))))))))
  refine B5 (d:=21) Z (fun ht=>?_) (fun hf=>?_)
  ·refine oj (gf Z Z Z Z Z Z (oj (gf Z Z Z Z Z Z (oj (gt Z Z Z ((Cl Z Z Z (oj (Cl Z Z Z (Ac (d:=25) (v:=.bool true) Z (by first | rfl | (exfalso; omega) | (congr 1; simp; omega)) (oj (Ao Z Z (.cons Z (.cons Z .nil)) fb_76 (F8 (Bg q 0))  (fun w h=>tR) Z (fun _=>(Ae (fun w h=>h.2) (on (qn (Ab (Aa (oj (mv Z Z (oj (mv Z Z (oj (band Z Z Z (Ac (d:=29) (v:=.int .u8 ((b.toNat % 128:Nat):Int)) Z (by rw [and127 (by omega)]) ?_)))))))))))))))))))))))))
   refine oj (Ig Z Tryz.underlying5 Tryz.underlying205 Z (Ac (d:=30) (v:=.int .u64 ((b.toNat % 128:Nat):Int)) Z (by rw [C4 (by omega)]) (oj (mv Z Z (oj (mul Z Z Z (by omega) (Ac (d:=32) (v:=iv ((7*i:Nat):Int)) Z (by congr 1) (oj (shlN Z Z Z Z Z (by omega) (Ac (d:=33) (v:=.int .u64 ((128 ^ i*(v % 128):Nat):Int)) Z (by show Value.int _ _=_; rw [num_sh hv hu (by omega)]) (oj (orN Z Z Z Z Z (⟨Nat.lt_of_le_of_lt (Nat.mod_le _ _) hu,by have h1:128 ^ i*(v % 128)≤u:=Nat.le_trans (Nat.mul_le_mul_left _ (Nat.mod_le _ _)) (hv ▸ Nat.mul_div_le _ _); omega⟩) (Ac (d:=34) (v:=.int .u64 ((u % 128 ^ (i+1):Nat):Int)) Z (by show Value.int _ _=_; rw [num_or hv]) (oj (Ak Z Z (on (qn (Ab (Aa (oj (mv Z Z (oj (Dd Z Z Z ?_)))))))))))))))))))))))
   refine on (qn ?_)
   refine A8 Z (fun ht=>?_) (fun hf=>?_)
   ·obtain ⟨hv1,hb1,rfl⟩:v < 128∧b.toNat=v∧r=[]:=by
     rcases hb with h | ⟨h1,h2,_⟩
     ·exact h
     ·exfalso; omega
    exact Ab (Aa (oj (mv Z Z (oj (Ak Z Z (on (qn (Af (br (qr (qr (br (Ac (d:=2) (v:=.int .u64 (u:Int)) Z (by rw [mod_all hv hv1]) (As (ra2,rc2) Z (.tmp Z .nil) Z hrc2 (.refl _) (fun w h=>⟨(h.1.2.1),tR⟩) (.inl Z)))))))))))))))
   ·obtain ⟨hv1,hb1,hr1⟩ : ¬ v < 128∧b.toNat=v % 128+128∧r=Dx (v / 128):=by
     rcases hb with ⟨h1,h2,_⟩ | h
     ·exfalso; omega
     ·exact h
    exact Ah (bn (qn (Aa (oj (mv Z Z (oj (add Z Z Z (by omega) (oj (Ak Z Z (on (qn (Ar (i+1,_,ra2,rc2) (by dsimp only; omega) (⟨by (try dsimp only); omega,.inr (by (try dsimp only); rw [Gq hv]; omega),by (try dsimp only); simp at hl ⊢; omega,by (try dsimp only); rw [Gq hv,hr1]⟩) (⟨Z,Z,Z,tR⟩) (.refl _) (fun w h=>⟨(h.1.2.1),tR⟩)))))))))))))
  ·refine oj (gt Z Z Z ((mv Z Z (oj (gt Z Z Z ((lei Z Z Z (oj (gt Z Z Z ((Df Z Z Z (oj (Cl Z Z Z (Ac (d:=25) (v:=.bool true) Z (by first | rfl | (exfalso; omega) | (congr 1; simp; omega)) (oj (Ao Z Z (.cons Z (.cons Z .nil)) fb_76 (F8 (Bg q 0))  (fun w h=>tR) Z (fun _=>(Ae (fun w h=>h.2) (on (qn (Ab (Aa (oj (mv Z Z (oj (mv Z Z ?_))))))))))))))))))))))))))
   refine oj (band Z Z Z (Ac (d:=29) (v:=.int .u8 ((b.toNat % 128:Nat):Int)) Z (by rw [and127 (by omega)]) (oj (Ig Z Tryz.underlying5 Tryz.underlying205 Z (Ac (d:=30) (v:=.int .u64 ((b.toNat % 128:Nat):Int)) Z (by rw [C4 (by omega)]) (oj (mv Z Z (oj (mul Z Z Z (by omega) (Ac (d:=32) (v:=iv ((7*i:Nat):Int)) Z (by congr 1) (oj (shlN Z Z Z Z Z (by omega) (Ac (d:=33) (v:=.int .u64 ((128 ^ i*(v % 128):Nat):Int)) Z (by show Value.int _ _=_; rw [num_sh hv hu (by omega)]) (oj (orN Z Z Z Z Z (⟨Nat.lt_of_le_of_lt (Nat.mod_le _ _) hu,by have h1:128 ^ i*(v % 128)≤u:=Nat.le_trans (Nat.mul_le_mul_left _ (Nat.mod_le _ _)) (hv ▸ Nat.mul_div_le _ _); omega⟩) (Ac (d:=34) (v:=.int .u64 ((u % 128 ^ (i+1):Nat):Int)) Z (by show Value.int _ _=_; rw [num_or hv]) (oj (Ak Z Z (on (qn (Ab (Aa ?_))))))))))))))))))))))
   refine oj (mv Z Z (oj (Dd Z Z Z (on (qn ?_)))))
   refine A8 Z (fun ht=>?_) (fun hf=>?_)
   ·obtain ⟨hv1,hb1,rfl⟩:v < 128∧b.toNat=v∧r=[]:=by
     rcases hb with h | ⟨h1,h2,_⟩
     ·exact h
     ·exfalso; omega
    exact Ab (Aa (oj (mv Z Z (oj (Ak Z Z (on (qn (Af (br (qr (qr (br (Ac (d:=2) (v:=.int .u64 (u:Int)) Z (by rw [mod_all hv hv1]) (As (ra2,rc2) Z (.tmp Z .nil) Z hrc2 (.refl _) (fun w h=>⟨(h.1.2.1),tR⟩) (.inl Z)))))))))))))))
   ·obtain ⟨hv1,hb1,hr1⟩ : ¬ v < 128∧b.toNat=v % 128+128∧r=Dx (v / 128):=by
     rcases hb with ⟨h1,h2,_⟩ | h
     ·exfalso; omega
     ·exact h
    exact Ah (bn (qn (Aa (oj (mv Z Z (oj (add Z Z Z (by omega) (oj (Ak Z Z (on (qn (Ar (i+1,_,ra2,rc2) (by dsimp only; omega) (⟨by (try dsimp only); omega,.inr (by (try dsimp only); rw [Gq hv]; omega),by (try dsimp only); simp at hl ⊢; omega,by (try dsimp only); rw [Gq hv,hr1]⟩) (⟨Z,Z,Z,tR⟩) (.refl _) (fun w h=>⟨(h.1.2.1),tR⟩)))))))))))))
 ·refine oj (gt Z Z Z ((mv Z Z (oj (gt Z Z Z ((G2 Z Z Z (oj (Df Z Z Z (oj (mv Z Z ?_)))))))))))
  refine kj_ne (d:=18) Z (fun ht=>?_) (fun hf=>?_)
  ·refine oj (gt Z Z Z ((mv Z Z (oj (gt Z Z Z ((Dd Z Z Z (oj (gt Z Z Z ((mv Z Z ?_)))))))))))
   refine B5 (d:=21) Z (fun ht=>?_) (fun hf=>?_)
   ·refine oj (gf Z Z Z Z Z Z (oj (gf Z Z Z Z Z Z (oj (gt Z Z Z ((Cl Z Z Z (oj (Cl Z Z Z (Ac (d:=25) (v:=.bool true) Z (by first | rfl | (exfalso; omega) | (congr 1; simp; omega)) (oj (Ao Z Z (.cons Z (.cons Z .nil)) fb_76 (F8 (Bg q 0))  (fun w h=>tR) Z (fun _=>(Ae (fun w h=>h.2) (on (qn (Ab (Aa (oj (mv Z Z (oj (mv Z Z (oj (band Z Z Z (Ac (d:=29) (v:=.int .u8 ((b.toNat % 128:Nat):Int)) Z (by rw [and127 (by omega)]) ?_)))))))))))))))))))))))))
    refine oj (Ig Z Tryz.underlying5 Tryz.underlying205 Z (Ac (d:=30) (v:=.int .u64 ((b.toNat % 128:Nat):Int)) Z (by rw [C4 (by omega)]) (oj (mv Z Z (oj (mul Z Z Z (by omega) (Ac (d:=32) (v:=iv ((7*i:Nat):Int)) Z (by congr 1) (oj (shlN Z Z Z Z Z (by omega) (Ac (d:=33) (v:=.int .u64 ((128 ^ i*(v % 128):Nat):Int)) Z (by show Value.int _ _=_; rw [num_sh hv hu (by omega)]) (oj (orN Z Z Z Z Z (⟨Nat.lt_of_le_of_lt (Nat.mod_le _ _) hu,by have h1:128 ^ i*(v % 128)≤u:=Nat.le_trans (Nat.mul_le_mul_left _ (Nat.mod_le _ _)) (hv ▸ Nat.mul_div_le _ _); omega⟩) (Ac (d:=34) (v:=.int .u64 ((u % 128 ^ (i+1):Nat):Int)) Z (by show Value.int _ _=_; rw [num_or hv]) (oj (Ak Z Z (on (qn (Ab (Aa (oj (mv Z Z (oj (Dd Z Z Z ?_)))))))))))))))))))))))
    refine on (qn ?_)
    refine A8 Z (fun ht=>?_) (fun hf=>?_)
    ·obtain ⟨hv1,hb1,rfl⟩:v < 128∧b.toNat=v∧r=[]:=by
      rcases hb with h | ⟨h1,h2,_⟩
      ·exact h
      ·exfalso; omega
     exact Ab (Aa (oj (mv Z Z (oj (Ak Z Z (on (qn (Af (br (qr (qr (br (Ac (d:=2) (v:=.int .u64 (u:Int)) Z (by rw [mod_all hv hv1]) (As (ra2,rc2) Z (.tmp Z .nil) Z hrc2 (.refl _) (fun w h=>⟨(h.1.2.1),tR⟩) (.inl Z)))))))))))))))
    ·obtain ⟨hv1,hb1,hr1⟩ : ¬ v < 128∧b.toNat=v % 128+128∧r=Dx (v / 128):=by
      rcases hb with ⟨h1,h2,_⟩ | h
      ·exfalso; omega
      ·exact h
     exact Ah (bn (qn (Aa (oj (mv Z Z (oj (add Z Z Z (by omega) (oj (Ak Z Z (on (qn (Ar (i+1,_,ra2,rc2) (by dsimp only; omega) (⟨by (try dsimp only); omega,.inr (by (try dsimp only); rw [Gq hv]; omega),by (try dsimp only); simp at hl ⊢; omega,by (try dsimp only); rw [Gq hv,hr1]⟩) (⟨Z,Z,Z,tR⟩) (.refl _) (fun w h=>⟨(h.1.2.1),tR⟩)))))))))))))
   ·refine oj (gt Z Z Z ((mv Z Z (oj (gt Z Z Z ((lei Z Z Z (oj (gt Z Z Z ((Df Z Z Z (oj (Cl Z Z Z (Ac (d:=25) (v:=.bool true) Z (by first | rfl | (exfalso; omega) | (congr 1; simp; omega)) (oj (Ao Z Z (.cons Z (.cons Z .nil)) fb_76 (F8 (Bg q 0))  (fun w h=>tR) Z (fun _=>(Ae (fun w h=>h.2) (on (qn (Ab (Aa (oj (mv Z Z (oj (mv Z Z ?_))))))))))))))))))))))))))
    refine oj (band Z Z Z (Ac (d:=29) (v:=.int .u8 ((b.toNat % 128:Nat):Int)) Z (by rw [and127 (by omega)]) (oj (Ig Z Tryz.underlying5 Tryz.underlying205 Z (Ac (d:=30) (v:=.int .u64 ((b.toNat % 128:Nat):Int)) Z (by rw [C4 (by omega)]) (oj (mv Z Z (oj (mul Z Z Z (by omega) (Ac (d:=32) (v:=iv ((7*i:Nat):Int)) Z (by congr 1) (oj (shlN Z Z Z Z Z (by omega) (Ac (d:=33) (v:=.int .u64 ((128 ^ i*(v % 128):Nat):Int)) Z (by show Value.int _ _=_; rw [num_sh hv hu (by omega)]) (oj (orN Z Z Z Z Z (⟨Nat.lt_of_le_of_lt (Nat.mod_le _ _) hu,by have h1:128 ^ i*(v % 128)≤u:=Nat.le_trans (Nat.mul_le_mul_left _ (Nat.mod_le _ _)) (hv ▸ Nat.mul_div_le _ _); omega⟩) (Ac (d:=34) (v:=.int .u64 ((u % 128 ^ (i+1):Nat):Int)) Z (by show Value.int _ _=_; rw [num_or hv]) (oj (Ak Z Z (on (qn (Ab (Aa ?_))))))))))))))))))))))
    refine oj (mv Z Z (oj (Dd Z Z Z (on (qn ?_)))))
    refine A8 Z (fun ht=>?_) (fun hf=>?_)
    ·obtain ⟨hv1,hb1,rfl⟩:v < 128∧b.toNat=v∧r=[]:=by
      rcases hb with h | ⟨h1,h2,_⟩
      ·exact h
      ·exfalso; omega
     exact Ab (Aa (oj (mv Z Z (oj (Ak Z Z (on (qn (Af (br (qr (qr (br (Ac (d:=2) (v:=.int .u64 (u:Int)) Z (by rw [mod_all hv hv1]) (As (ra2,rc2) Z (.tmp Z .nil) Z hrc2 (.refl _) (fun w h=>⟨(h.1.2.1),tR⟩) (.inl Z)))))))))))))))
    ·obtain ⟨hv1,hb1,hr1⟩ : ¬ v < 128∧b.toNat=v % 128+128∧r=Dx (v / 128):=by
      rcases hb with ⟨h1,h2,_⟩ | h
      ·exfalso; omega
      ·exact h
     exact Ah (bn (qn (Aa (oj (mv Z Z (oj (add Z Z Z (by omega) (oj (Ak Z Z (on (qn (Ar (i+1,_,ra2,rc2) (by dsimp only; omega) (⟨by (try dsimp only); omega,.inr (by (try dsimp only); rw [Gq hv]; omega),by (try dsimp only); simp at hl ⊢; omega,by (try dsimp only); rw [Gq hv,hr1]⟩) (⟨Z,Z,Z,tR⟩) (.refl _) (fun w h=>⟨(h.1.2.1),tR⟩)))))))))))))
  ·refine oj (gf Z Z Z Z Z Z (oj (gf Z Z Z Z Z Z (oj (gf Z Z Z Z Z Z (oj (Gl Z Z Z Z Z (oj (Gl Z Z Z Z Z (oj (gf Z Z Z Z Z Z (oj (Df Z Z Z (Ac (d:=25) (v:=.bool true) Z (by first | rfl | (exfalso; omega) | (congr 1; simp; omega)) (oj (Ao Z Z (.cons Z (.cons Z .nil)) fb_76 (F8 (Bg q 0))  (fun w h=>tR) Z (fun _=>(Ae (fun w h=>h.2) (on (qn (Ab (Aa (oj (mv Z Z (oj (mv Z Z ?_))))))))))))))))))))))))))
   refine oj (band Z Z Z (Ac (d:=29) (v:=.int .u8 ((b.toNat % 128:Nat):Int)) Z (by rw [and127 (by omega)]) (oj (Ig Z Tryz.underlying5 Tryz.underlying205 Z (Ac (d:=30) (v:=.int .u64 ((b.toNat % 128:Nat):Int)) Z (by rw [C4 (by omega)]) (oj (mv Z Z (oj (mul Z Z Z (by omega) (Ac (d:=32) (v:=iv ((7*i:Nat):Int)) Z (by congr 1) (oj (shlN Z Z Z Z Z (by omega) (Ac (d:=33) (v:=.int .u64 ((128 ^ i*(v % 128):Nat):Int)) Z (by show Value.int _ _=_; rw [num_sh hv hu (by omega)]) (oj (orN Z Z Z Z Z (⟨Nat.lt_of_le_of_lt (Nat.mod_le _ _) hu,by have h1:128 ^ i*(v % 128)≤u:=Nat.le_trans (Nat.mul_le_mul_left _ (Nat.mod_le _ _)) (hv ▸ Nat.mul_div_le _ _); omega⟩) (Ac (d:=34) (v:=.int .u64 ((u % 128 ^ (i+1):Nat):Int)) Z (by show Value.int _ _=_; rw [num_or hv]) (oj (Ak Z Z (on (qn (Ab (Aa ?_))))))))))))))))))))))
   refine oj (mv Z Z (oj (Dd Z Z Z (on (qn ?_)))))
   refine A8 Z (fun ht=>?_) (fun hf=>?_)
   ·obtain ⟨hv1,hb1,rfl⟩:v < 128∧b.toNat=v∧r=[]:=by
     rcases hb with h | ⟨h1,h2,_⟩
     ·exact h
     ·exfalso; omega
    exact Ab (Aa (oj (mv Z Z (oj (Ak Z Z (on (qn (Af (br (qr (qr (br (Ac (d:=2) (v:=.int .u64 (u:Int)) Z (by rw [mod_all hv hv1]) (As (ra2,rc2) Z (.tmp Z .nil) Z hrc2 (.refl _) (fun w h=>⟨(h.1.2.1),tR⟩) (.inl Z)))))))))))))))
   ·obtain ⟨hv1,hb1,hr1⟩ : ¬ v < 128∧b.toNat=v % 128+128∧r=Dx (v / 128):=by
     rcases hb with ⟨h1,h2,_⟩ | h
     ·exfalso; omega
     ·exact h
    exact Ah (bn (qn (Aa (oj (mv Z Z (oj (add Z Z Z (by omega) (oj (Ak Z Z (on (qn (Ar (i+1,_,ra2,rc2) (by dsimp only; omega) (⟨by (try dsimp only); omega,.inr (by (try dsimp only); rw [Gq hv]; omega),by (try dsimp only); simp at hl ⊢; omega,by (try dsimp only); rw [Gq hv,hr1]⟩) (⟨Z,Z,Z,tR⟩) (.refl _) (fun w h=>⟨(h.1.2.1),tR⟩)))))))))))))
theorem rlength_spec (q:Nat) (a:Option Addr) (c:Nat) (k:Nat) (rest:List UInt8) (hk:k≤rest.length) (hl:(Dx k++rest).length≤1000000000000):Ay Tryz.prog 153 [Bg q 0] [rdE q a (Dx k++rest).length c] (fun w=>rdF a c (Dx k++rest) w∧True) (fun x:Option Addr × Nat=>⟨rest.length≤x.2,iv k,[rdE q x.1 rest.length x.2],fun w=>rdF x.1 x.2 rest w∧True⟩):=by
 refine Aj Tryz.func153 Z Z fun X w0=>?_
 have hrl:rest.length≤1000000000000:=by rw [List.length_append] at hl; omega
 refine Ab (Aa (oj (Ak Z Z (on (qn (Ab (Aa (oj (mv Z Z (oj (Ce Z Z (.cons Z .nil) fb_152 (rnumber_spec q a c k (by omega) rest hl) (fun _=>.head) (fun _=>Z) (fun w h=>⟨(h.1),tR⟩) ?_)))))))))))
 rintro ⟨ra,rc⟩ hrc
 try dsimp only at hrc
 try dsimp only
 refine oj (Ak Z Z (on (qn (Ab (Aa (oj (mv Z Z (oj (mv Z Z (oj (mv Z Z (oj (Cq Z Z (oj (A2 (o':=0) Z Z I6 Bt Z (oj (Bh Z Z Bt (.head _) (Z) (oj (Bn Z Z Tryz.underlying53 Z (oj (Ig Z Tryz.underlying3 Tryz.underlying205 Z (oj (lei Z Z Z (Ac (d:=14) (v:=.bool true) Z (by congr 1; rw [C4 (by omega)]; simp; omega) (oj (Ao Z Z (.cons Z (.cons Z .nil)) fb_76 (F8 (Bg q 0))  (fun w h=>tR) Z (fun _=>?_)))))))))))))))))))))))))))
 exact Ae (fun w h=>h.2) (on (qn (Ab (Aa (oj (mv Z Z (oj (Ig Z Tryz.underlying205 Tryz.underlying3 Z (Ac (d:=17) (v:=iv k) Z (by rw [Dr (by omega)]) (oj (Ak Z Z (on (qn (Af (As (ra,rc) Z (.tmp Z .nil) Z hrc (.refl _) (fun w h=>⟨(h.1.1),tR⟩) (.inl Z))))))))))))))))
instance:Inhabited RV:=⟨.int 0 none 0⟩
theorem enc_pos (v:Val):1≤(enc v).length:=by cases v <;> simp [enc]
theorem encL_len (l:List Val):l.length≤(E8 l).length:=by
 induction l with
 | nil=>simp
 | cons v l ih =>
  have:=enc_pos v
  simp only [E8,List.length_cons,List.length_append]
  omega
theorem value_int (q:Nat) (a:Option Addr) (c:Nat) (d:Int) (n:Int) (hn : -9223372036854775808≤n∧n≤9223372036854775807) (rest:List UInt8) (hl:(1::(Dx (zz n)++rest)).length≤1000000000000):Ay Tryz.prog 75 [Bg q 0,iv d] [rdE q a (1::(Dx (zz n)++rest)).length c] (fun w=>rdF a c (1::(Dx (zz n)++rest)) w∧True) (fun x:RV × Option Addr × Nat=>⟨x.1.val=.int n∧rest.length≤x.2.2,vA x.1,[rdE q x.2.1 rest.length x.2.2],fun w=>Cw x.1 w∧rdF x.2.1 x.2.2 rest w∧True⟩):=by
 refine Aj Tryz.func75 Z Z fun X w0=>(Ab (Aa (oj (C7 Z Cc (fun r4=>(on (qn (Ab (Aa (oj (mv Z Z (oj (Ce Z Z (.cons Z (.cons Z .nil)) fb_150 (Kd q a c [1] (Dx (zz n)++rest) hl) (fun _=>(.tail .head)) (fun _=>Z) (fun w h=>⟨(h.1),tR⟩) ?_)))))))))))))
 rintro ⟨xa,ra,rc⟩ hrc
 try dsimp only at hrc
 try dsimp only
 refine oj (Fc Z Z Z Tryz.underlying53 Bv (⟨by decide,by simp⟩) (fun w h=>Sl.some (h.1.1) (by simp)) (oj (A4 Z Z Bv (fun w h=>(Sl.elem1 (h.1.1) (show (An [1])[0]? = some (.int .u8 (1:Int)) from Z))) (oj (Ig Z Tryz.underlying5 Tryz.underlying3 Z (Ac (d:=9) (v:=iv 1) Z (by rfl) (oj (A2 (o':=0) Z Z Bq Ai Z (oj (Cr Z Z Ai Z .head (.head Z) Z (on (qn (Ab (Ab (Aa (oj (A2 (o':=0) Z Z Bq Ai Z (oj (Bh Z Z Ai (.head _) (Z) (on (qn (Ag ?_))))))))))))))))))))))
 refine Ab (Aa (oj (Eu Z Z Z (oj (Ak Z Z (on (qn (Fq Z (fun ht=>(Aa (oj (mv Z Z (oj (Ce Z Z (.cons Z .nil) fb_152 (rnumber_spec q ra rc (zz n) (zz_lt hn) rest (by simp at hl ⊢; omega)) (fun _=>(.tail .head)) (fun _=>Z) (fun w h=>⟨(h.1.2.1),tR⟩) ?_)))))) (fun hf=>absurd hf (by decide))))))))))
 rintro ⟨rb,rd⟩ hrd
 try dsimp only at hrd
 try dsimp only
 exact oj (Ao Z Z (.cons Z .nil) fb_151 (signed_spec n hn)  (fun w h=>tR) Z (fun _=>(Ae (fun w h=>h.2) (oj (A2 (o':=1) Z Z Er Ai Z (oj (Cr Z Z Ai Z .head (.tail (.head Z)) Z (on (bn (qn (Ab (Aa (oj (Eb Z Z Bi (.head _) Z (oj (C0 Z Z Bi Z Z .head (on (qn (Af (As (.int n none 0,rb,rd) Z (.cellW Z Bi (.head _) Z .nil) Z ⟨Z,hrd⟩ (.cons _ (.refl _)) (fun w h=>⟨tR,(h.1.1),tR⟩) (.inl Z)))))))))))))))))))))
theorem value_text (q:Nat) (a:Option Addr) (c:Nat) (d:Int) (s:List UInt8) (rest:List UInt8) (hl:(2::(Dx s.length++(s++rest))).length≤1000000000000):Ay Tryz.prog 75 [Bg q 0,iv d] [rdE q a (2::(Dx s.length++(s++rest))).length c] (fun w=>rdF a c (2::(Dx s.length++(s++rest))) w∧True) (fun x:RV × Option Addr × Nat=>⟨x.1.val=.text s∧rest.length≤x.2.2,vA x.1,[rdE q x.2.1 rest.length x.2.2],fun w=>Cw x.1 w∧rdF x.2.1 x.2.2 rest w∧True⟩):=by
 refine Aj Tryz.func75 Z Z fun X w0=>(Ab (Aa (oj (C7 Z Cc (fun r4=>(on (qn (Ab (Aa (oj (mv Z Z (oj (Ce Z Z (.cons Z (.cons Z .nil)) fb_150 (Kd q a c [2] (Dx s.length++(s++rest)) hl) (fun _=>(.tail .head)) (fun _=>Z) (fun w h=>⟨(h.1),tR⟩) ?_)))))))))))))
 rintro ⟨xa,ra,rc⟩ hrc
 try dsimp only at hrc
 try dsimp only
 refine oj (Fc Z Z Z Tryz.underlying53 Bv (⟨by decide,by simp⟩) (fun w h=>Sl.some (h.1.1) (by simp)) (oj (A4 Z Z Bv (fun w h=>(Sl.elem1 (h.1.1) (show (An [2])[0]? = some (.int .u8 (2:Int)) from Z))) (oj (Ig Z Tryz.underlying5 Tryz.underlying3 Z (Ac (d:=9) (v:=iv 2) Z (by rfl) (oj (A2 (o':=0) Z Z Bq Ai Z (oj (Cr Z Z Ai Z .head (.head Z) Z (on (qn (Ab (Ab (Aa (oj (A2 (o':=0) Z Z Bq Ai Z (oj (Bh Z Z Ai (.head _) (Z) (on (qn (Ag ?_))))))))))))))))))))))
 refine Ab (Aa (oj (Eu Z Z Z (oj (Ak Z Z (on (qn (Fq Z (fun ht=>absurd ht (by decide)) (fun hf=>(Ab (Aa (oj (Eu Z Z Z (oj (Ak Z Z (on (qn (Fq Z (fun ht=>(Aa (oj (mv Z Z ?_)))) (fun hf=>absurd hf (by decide))))))))))))))))))))
 refine oj (mv Z Z (oj (Ce Z Z (.cons Z .nil) fb_153 (rlength_spec q ra rc s.length (s++rest) (by simp) (by simp at hl ⊢; omega)) (fun _=>(.tail .head)) (fun _=>Z) (fun w h=>⟨(h.1.2.1),tR⟩) ?_)))
 rintro ⟨rb,rd⟩ hrd
 try dsimp only at hrd
 try dsimp only
 refine oj (Ce Z Z (.cons Z (.cons Z .nil)) fb_150 (Kd q rb rd s rest (by simp at hl ⊢; omega)) (fun _=>(.tail .head)) (fun _=>Z) (fun w h=>⟨(h.1.1),tR⟩) ?_)
 rintro ⟨sa,rb2,rd2⟩ hrd2
 try dsimp only at hrd2
 try dsimp only
 exact oj (cvbs Z Z Tryz.underlying53 Tryz.underlying9 Tryz.underlying5 (fun w ho h=>(h.1.1)) (oj (A2 (o':=2) Z Z Eq G4 Z (oj (Cr Z Z G4 Z .head (.tail (.tail (.head Z))) Z (on (bn (qn (Ab (Aa (oj (Eb Z Z Bi (.head _) Z (oj (C0 Z Z Bi Z Z .head (on (qn (Af (As (.text s none 0,rb2,rd2) Z (.cellW Z Bi (.head _) Z .nil) Z ⟨Z,hrd2⟩ (.cons _ (.refl _)) (fun w h=>⟨tR,(h.1.2.1),tR⟩) (.inl Z)))))))))))))))))))
theorem value_list0 (q:Nat) (a:Option Addr) (c:Nat) (d:Int) (hd:0≤d∧d < 16) (l:List Val) (hll:l.length≤1000000) (ih:∀ v∈l,∀ (a:Option Addr) (c:Nat) (rest:List UInt8) (hl:(enc v++rest).length≤1000000000000),Ay Tryz.prog 75 [Bg q 0,iv (d+1)] [rdE q a (enc v++rest).length c] (fun w=>rdF a c (enc v++rest) w∧True) (fun x:RV × Option Addr × Nat=>⟨x.1.val=v∧rest.length≤x.2.2,vA x.1,[rdE q x.2.1 rest.length x.2.2],fun w=>Cw x.1 w∧rdF x.2.1 x.2.2 rest w∧True⟩)) (rest:List UInt8) (hl:(3::(Dx l.length++(E8 l++rest))).length≤1000000000000):Ay Tryz.prog 75 [Bg q 0,iv d] [rdE q a (3::(Dx l.length++(E8 l++rest))).length c] (fun w=>rdF a c (3::(Dx l.length++(E8 l++rest))) w∧True) (fun x:RV × Option Addr × Nat=>⟨x.1.val=.list l∧rest.length≤x.2.2,vA x.1,[rdE q x.2.1 rest.length x.2.2],fun w=>Cw x.1 w∧rdF x.2.1 x.2.2 rest w∧True⟩):=by
 refine Aj Tryz.func75 Z Z fun X w0=>(Ab (Aa (oj (C7 Z Cc (fun r4=>(on (qn (Ab (Aa (oj (mv Z Z (oj (Ce Z Z (.cons Z (.cons Z .nil)) fb_150 (Kd q a c [3] (Dx l.length++(E8 l++rest)) hl) (fun _=>(.tail .head)) (fun _=>Z) (fun w h=>⟨(h.1),tR⟩) ?_)))))))))))))
 rintro ⟨xa,ra,rc⟩ hrc
 try dsimp only at hrc
 try dsimp only
 refine oj (Fc Z Z Z Tryz.underlying53 Bv (⟨by decide,by simp⟩) (fun w h=>Sl.some (h.1.1) (by simp)) (oj (A4 Z Z Bv (fun w h=>(Sl.elem1 (h.1.1) (show (An [3])[0]? = some (.int .u8 (3:Int)) from Z))) (oj (Ig Z Tryz.underlying5 Tryz.underlying3 Z (Ac (d:=9) (v:=iv 3) Z (by rfl) (oj (A2 (o':=0) Z Z Bq Ai Z (oj (Cr Z Z Ai Z .head (.head Z) Z (on (qn (Ab (Ab (Aa (oj (A2 (o':=0) Z Z Bq Ai Z (oj (Bh Z Z Ai (.head _) (Z) (on (qn (Ag ?_))))))))))))))))))))))
 refine Ab (Aa (oj (Eu Z Z Z (oj (Ak Z Z (on (qn (Fq Z (fun ht=>absurd ht (by decide)) (fun hf=>(Ab (Aa (oj (Eu Z Z Z (oj (Ak Z Z (on (qn (Fq Z (fun ht=>absurd ht (by decide)) (fun hf=>(Ab (Aa ?_)))))))))))))))))))))
 refine oj (Eu Z Z Z (oj (Ak Z Z (on (qn (Fq Z (fun ht=>(Ab (Aa (oj (mv Z Z (oj (mv Z Z (oj (Dd Z Z Z (Ac (d:=33) (v:=.bool true) Z (by simp; omega) (oj (Ao Z Z (.cons Z (.cons Z .nil)) fb_76 (F8 (Bg q 0))  (fun w h=>tR) Z (fun _=>(Ae (fun w h=>h.2) (on (qn (Ab ?_))))))))))))))))) (fun hf=>absurd hf (by decide))))))))
 refine Aa (oj (mv Z Z (oj (Ce Z Z (.cons Z .nil) fb_153 (rlength_spec q ra rc l.length (E8 l++rest) (by have:=encL_len l; simp; omega) (by simp at hl ⊢; omega)) (fun _=>(.tail .head)) (fun _=>Z) (fun w h=>⟨(h.1.2.1),tR⟩) ?_))))
 rintro ⟨rb,rd⟩ hrd
 try dsimp only at hrd
 try dsimp only
 refine oj (mv Z Z (on (qn (Ag (Cx (Aw (fun (sT:(Nat) × (List RV) × (Option Addr) × (Nat) × (A9) × (List UInt8) × (Option Addr) × (Nat))=>(⟨sT.1≤l.length∧vals sT.2.1=l.take sT.1∧sT.2.1.length=sT.1∧Own 61 4 (.slice sT.2.2.1 sT.1 sT.2.2.2.1) sT.1 (sT.2.1.flatMap RV.cells) sT.2.2.2.2.1∧sT.2.2.2.2.2.1=E8 (l.drop sT.1)++rest∧sT.2.2.2.2.2.1.length≤sT.2.2.2.2.2.2.2∧sT.2.2.2.2.2.1.length≤1000000000000,[(0,Bg q 0),(1,iv d),(4,Bg r4 0),(36,iv l.length),(37,iv (sT.1:Int))],[sT.2.2.2.2.1,bx r4 [S1 (iv 3),S1 (iv 0),S1 (.string ByteArray.empty),S1 (.slice sT.2.2.1 sT.1 sT.2.2.2.1)] 61,rdE q sT.2.2.2.2.2.2.1 sT.2.2.2.2.2.1.length sT.2.2.2.2.2.2.2],fun w=>rdF sT.2.2.2.2.2.2.1 sT.2.2.2.2.2.2.2 sT.2.2.2.2.2.1 w∧Bo sT.2.1 w∧True,l.length-sT.1⟩:Hd)) (0,[],none,0,none,_,rb,rd) (⟨Nat.zero_le _,Z,Z,.nil,Z,hrd,by simp at hl ⊢; omega⟩) (⟨Z,Z,Z,Z,Z,tR⟩) (.refl _) (fun w h=>⟨(h.1.1),tR,tR⟩) ?_))))))
 rintro ⟨j,rs,va,vc,en,bs,ra2,rc2⟩ ⟨hj,hv,hrl,ho,hbs,hbc,hbl⟩
 try dsimp only
 try dsimp only at hj hv hrl ho hbs hbc hbl
 refine Ab (Aa (oj (Dd Z Z Z (on (qn (Ab ?_))))))
 refine A8 Z (fun ht=>?_) (fun hf=>?_)
 ·obtain ⟨x,hx⟩:∃ x,l[j]? = some x:=⟨_,List.getElem?_eq_getElem (by omega)⟩
  have hdr:l.drop j=x::l.drop (j+1):=by
   obtain ⟨hi,e⟩:=List.getElem?_eq_some_iff.1 hx
   rw [← e,← List.drop_eq_getElem_cons hi]
  rw [hdr] at hbs
  have hbs2:bs=enc x++(E8 (l.drop (j+1))++rest):=by rw [hbs]; simp [E8]
  clear hbs
  subst hbs2
  refine Ah (qn (Ab (Ag (A5 mo (Cn (Am 2 _ _ Z).symm ?_)))))
  try dsimp only [List.eraseIdx]
  refine Fp (dj_upd [0,1,2,3,4,5,6] (fun j=>Nat.beq j 5 || Nat.beq j 6) (by kernel_rfl) Z Z (.det _ (fun Q K R m k=>(A2 (o':=3) Z Z Cd B3 Z k)) (.det _ (fun Q K R m k=>(Bh Z Z B3 (.tail _ (.head _)) (Z) k)) (.det _ (fun Q K R m k=>(mv Z Z k)) (.det _ (fun Q K R m k=>(mv Z Z k)) (.det _ (fun Q K R m k=>(add Z Z Z (by omega) k)) (.up _ _ _ _ Z (fun Q K R k=>Ks Z Z (.cons Z (.cons Z .nil)) fb_75 (ih x (List.mem_of_getElem? hx) ra2 rc2 _ hbl) (fun _=>Z) (fun w h=>⟨(h.1.1),tR⟩) (fun x hx=>Ae (fun w h=>⟨⟨h.1,h.2.1⟩,h.2.2⟩) (k x hx))) ?_)))))))
  rintro ⟨xv,ra3,rc3⟩ ⟨hxv,hrc3⟩
  try dsimp only
  refine .up (γ:=Nat) (fun _=>True) _ (fun _=>_) _ Z (fun Q K R k=>(F7 Z Tryz.underlying59 Bi Cc (.agg (s:=vS xv) Z .nil) (by repeat (first | exact List.forall_mem_nil _ | refine List.forall_mem_cons.2 ⟨rfl,?_⟩)) Z (by decide) Z (fun r45=>Al (.refl _) (Ae (fun w h=>⟨⟨h.1,h.2.1⟩,h.2.2⟩) (k r45 tR))))) ?_
  rintro r45 _
  try dsimp only [List.nil_append,List.cons_append]
  refine .nil (J1 2 ?_)
  dsimp only [List.take,List.drop,List.nil_append,List.cons_append]
  refine Ad 7 ((Ku Z Z Z el_59 (by kernel_rfl) ho (i:=0) Z (fun w ho h=>Bc.src (h.1.1) Z) (by omega) (by simp only [maxLen]; omega) (fun v46 e46 ho46=>?_)))
  try dsimp only [List.set]
  obtain ⟨va46,vc46,hv46,hc46⟩:=ho46.shape'
  subst hv46
  exact Ad 8 ((A2 (o':=3) Z Z Cd B3 Z (Ad 9 ((Cr Z Z B3 Z (.tail .head) (.tail (.tail (.tail (.head Z)))) Z (A6 (bn (qn (Aa (oj (add Z Z Z (by omega) (oj (mv Z Z (on (qn (Ar (j+1,rs++[xv],va46,vc46,e46,_,ra3,rc3) (by dsimp only; omega) (⟨by (try dsimp only); omega,by (try dsimp only); rw [Hn,hv,hxv,A7 hx],by simp [hrl],by rw [Dj]; exact ho46,Z,hrc3,by (try dsimp only); simp at hbl ⊢; omega⟩) (⟨Z,Z,Z,Z,Z,tR⟩) (.refl _) (fun w h=>⟨(h.2.1.2.1),Bo.app (Cu h) (Bo.one (h.2.1.1)),tR⟩)))))))))))))))))
 ·have h4:j=l.length:=by omega
  subst h4
  rw [List.take_length] at hv
  have hbs2:bs=rest:=by rw [hbs]; simp [E8]
  clear hbs
  subst hbs2
  refine A1 (qe (qe (be (bn (qn (Ab (Aa (oj (Eb Z Z Bi (.tail _ (.head _)) Z (oj (C0 Z Z Bi Z Z (.tail .head) (on (qn (Af ?_))))))))))))))
  have hcv:l.length≤vc:=by
   obtain ⟨_,_,e,h⟩:=ho.shape'
   cases e
   exact h
  refine By (i:=0) Z ho (Do Jp _) ?_
  try dsimp only [List.eraseIdx]
  exact As (.list rs va vc,ra2,rc2) Z (.cellW Z Bi (.head _) Z .nil) (by show av [S1 (iv 3),S1 (iv 0),S1 (.string ByteArray.empty),S1 (.slice va l.length vc)]=av [S1 (iv 3),S1 (iv 0),S1 (.string ByteArray.empty),S1 (.slice va rs.length vc)]; rw [hrl]) ⟨by show Val.list (vals rs)=_; rw [hv],hbc⟩ (.cons _ (.refl _)) (fun w h=>⟨⟨(by rw [hrl]; exact (h.1.1)),(h.2.2.1)⟩,(h.2.1),tR⟩) (.inl Z)
theorem enc_mem {l:List Val}:∀ v∈l,(enc v).length≤(E8 l).length:=by
 induction l with
 | nil=>intro v hv; cases hv
 | cons x l ih =>
  intro v hv
  rw [E8,List.length_append]
  rcases List.mem_cons.1 hv with rfl | hv
  ·omega
  ·have:=ih v hv; omega
theorem value_spec (v:Val) (hok:v.ok) (hsz:(enc v).length≤1000000) (q:Nat) (d:Int) (hd:0≤d∧d+v.dep≤16) (a:Option Addr) (c:Nat) (rest:List UInt8) (hl:(enc v++rest).length≤1000000000000) :
  Ay Tryz.prog 75 [Bg q 0,iv d] [rdE q a (enc v++rest).length c] (fun w=>rdF a c (enc v++rest) w∧True) (fun x:RV × Option Addr × Nat=>⟨x.1.val=v∧rest.length≤x.2.2,vA x.1,[rdE q x.2.1 rest.length x.2.2],fun w=>Cw x.1 w∧rdF x.2.1 x.2.2 rest w∧True⟩) :=
 match v with
 | .int n=>by
  have e:enc (.int n)++rest=1::(Dx (zz n)++rest):=by simp [enc]
  rw [e] at hl ⊢
  exact value_int q a c d n hok rest hl
 | .text s=>by
  have e:enc (.text s)++rest=2::(Dx s.length++(s++rest)):=by simp [enc]
  rw [e] at hl ⊢
  exact value_text q a c d s rest hl
 | .list l=>by
  have e:enc (.list l)++rest=3::(Dx l.length++(E8 l++rest)):=by simp [enc]
  have h1:(E8 l).length≤1000000:=by simp only [enc,List.length_cons,List.length_append] at hsz; omega
  have h2:=encL_len l
  have h3:d+(Gc l+1:Nat)≤16:=hd.2
  rw [e] at hl ⊢
  refine value_list0 q a c d (by omega) l (by omega) (fun v' hv' a' c' rest' hl'=>?_) rest hl
  have h4:=depL_mem v' hv'
  have h5:=enc_mem v' hv'
  exact value_spec v' (okL_mem hok.2 v' hv') (by omega) q (d+1) (by omega) a' c' rest' hl'
termination_by SizeOf.sizeOf v
decreasing_by
 have:=List.sizeOf_lt_of_mem hv'
 simp only [Val.list.sizeOf_spec]
 omega
theorem idle74 (a b:Value) (w:World):CallsDIn (wf none) 0 Tryz.prog 74 ([a,b]:List Value).toArray .returning w fun e u' w'=>e=.returned (.tuple #[])∧u'=.returning∧w'=w:=by
 refine callsDIn_of_wpSIn Tryz.func74 Z tR fun c₀ cs hu=>?_
 apply wpSIn_seq
 apply wpSIn_region
 try simp [wpOpsSIn,go_sem,recoverD,hu,Exit.thenS]
 apply wpSIn_seq
 apply wpSIn_region
 simp [wpOpsSIn,go_sem,Exit.thenS]
 refine wpSIn_cond (t:=false) (by simp [Act.eval]) ?_
 simp only [Bool.false_eq_true,if_false]
 refine wpSIn_of_wpIn Z (wpIn_skip ?_)
 cases c₀
 simp_all [bodyPostS,results]
theorem decode_spec (v:Val) (hok:v.ok) (hsz:(enc v).length≤1000000) (hd:v.dep≤16) (a:Option Addr) (c:Nat):Ay Tryz.prog 17 [.slice a (enc v).length c] [] (fun w=>Sl 1 (enc v).length (An (enc v)) (.slice a (enc v).length c) w∧True) (fun x:RV=>⟨x.val=v,.tuple #[vA x,iv 0],[],fun w=>Cw x w∧True⟩):=by
 refine Jf Tryz.func17 Z Z fun X w0=>?_
 have henc:enc v=enc v++[]:=(List.append_nil _).symm
 refine Ab (Aa (oj (C7 Z Cc (fun r2=>(oj (C7 Z zok_41 (fun r3=>(on (qn (Ab (Aa (oj (mkF Z .nil (.cons Z (.cons Z .nil)) (oj (kj_defer Z Z (on (qn (Ab (Aa (oj (mv Z Z (oj (bld Z lay_134 (Ch Z Z (.head Z) .nil) ?_)))))))))))))))))))))))
 refine oj (C6 Z Z (fun r8=>(oj (Ak Z Z (on (qn (Ab (Aa (oj (mv Z Z ?_))))))))))
 rw [show (enc v).length=(enc v++[]).length from by simp]
 refine oj (Ce Z Z (.cons Z (.cons Z .nil)) fb_75 (value_spec v hok hsz r8 0 (by omega) a c [] (by simp; omega)) (fun _=>.head) (fun _=>Z) (fun w h=>⟨(by simpa using (h.1)),tR⟩) ?_)
 rintro ⟨xv,ra,rc⟩ ⟨hxv,hrc⟩
 try dsimp only at hxv hrc
 try dsimp only
 refine oj (C0 Z Z Bi Z Z (.tail (.tail .head)) (on (qn (Ab (Aa (oj (mv Z Z (oj (mv Z Z (oj (Cq Z Z (oj (A2 (o':=0) Z Z I6 Bt Z (oj (Bh Z Z Bt (.head _) (Z) (oj (Bn Z Z Tryz.underlying53 Z (oj (Eu Z Z Z (Ac (d:=17) (v:=.bool true) Z (by rfl) (oj (Ao Z Z (.cons Z (.cons Z .nil)) fb_76 (F8 (Bg r8 0))  (fun w h=>tR) Z (fun _=>(Ae (fun w h=>h.2) (on ?_)))))))))))))))))))))))))
 exact qn (Ab (Aa (oj (Eb Z Z Bi (.tail _ (.tail _ (.head _))) Z (oj (C0 Z Z Bi Z Z (.tail (.tail .head)) (oj (Cr Z Z ty_41 Z (.tail .head) (.head Z) Z (on (qn (Af (retD (fun w=>idle74 (Bg r2 0) (Bg r3 0) w) fb_74 xv Z (.cellW Z Bi (.tail _ (.tail _ (.head _))) Z (.cell1 Z ty_41 (.tail _ (.head _)) Z .nil)) Z hxv (Bl _) (fun w h=>⟨(h.1.1),tR⟩)))))))))))))
abbrev vrE (r:Nat) (a:Option Addr) (n c:Nat):A9:=bx r [S1 (.slice a n c)] 207
abbrev vrF (a:Option Addr) (c:Nat) (rs:List RV):World→Prop:=Sl 4 rs.length (rs.flatMap RV.cells) (.slice a rs.length c)
theorem rvs_len (rs:List RV):(rs.flatMap RV.cells).length=rs.length*4:=Il (fun (v:RV)=>(rfl:v.cells.length=4)) rs
theorem vr_tail {a:Option Addr} {c:Nat} {x:RV} {rs:List RV} {w:World} (h:vrF a c (x::rs) w):vrF (if c=1 then a else a.map (·.add (1*4))) (c-1) rs w:=by
 obtain ⟨_,_,e0,hc,_⟩:=h.shape
 cases e0
 have:=Sl.part h (l':=1) (h:=(x::rs).length) (m:=c) (by simp) (Nat.le_refl _) hc
 have e:(((x::rs).flatMap RV.cells).drop (1*4)).take (((x::rs).length-1)*4)=rs.flatMap RV.cells:=by
  rw [List.flatMap_cons,List.drop_left' (by rfl)]
  exact List.take_of_length_le (by rw [rvs_len]; simp)
 rw [e] at this
 exact this
theorem rnext_spec (r:Nat) (a:Option Addr) (c:Nat) (x:RV) (rs:List RV) (hl:(x::rs).length≤1000000000):Ay Tryz.prog 148 [Bg r 0,iv x.kd] [vrE r a (x::rs).length c] (fun w=>vrF a c (x::rs) w∧True) (fun y:Option Addr × Nat=>⟨rs.length≤y.2,vA x,[vrE r y.1 rs.length y.2],fun w=>vrF y.1 y.2 rs w∧True⟩):=by
 refine Aj Tryz.func148 Z Z fun X w0=>(Iv (fun w h=>Sl.shape h.1) ?_)
 rintro ⟨_,_,e0,hcap,_⟩
 cases e0
 have hll:(x::rs).length=rs.length+1:=rfl
 refine Ab (Aa (oj (C7 Z Cc (fun r4=>(on (qn (Ab (Ab (Aa (oj (mv Z Z (oj (Cq Z Z (oj (Bh Z Z ty_207 (.tail _ (.head _)) (Z) (oj (Bn Z Z Tryz.underlying207 Z (oj (Eu Z Z Z (oj (mv Z Z (Kh (d:=11) Z (fun ht=>absurd ht (by simp only [List.length_cons]; omega)) (fun h1=>(oj (gt Z Z Z ?_)))))))))))))))))))))))))
 refine (mv Z Z (oj (gt Z Z Z ((Cq Z Z (oj (gt Z Z Z ((Bh Z Z ty_207 (.tail _ (.head _)) (Z) (oj (gt Z Z Z ((Fc Z Z Z Tryz.underlying207 Bi (by simp only [List.length_cons]; omega) (fun w h=>Sl.some (h.1) (by simp)) (oj (gt Z Z Z ((fadO Z Z Bq Ai (fun w h=>by obtain ⟨b,hb⟩:=Sl.some (h.1) (by simp); exact ⟨_,by rw [hb]; rfl⟩) (oj (gt Z Z Z ((A4 Z Z Ai (fun w h=>(Cv (h.1) (by decide) (fun _=>Z) (show (x::rs)[0]? = some x from Z)).fld Z) (oj (gt Z Z Z ((mv Z Z (oj (gt Z Z Z ((G2 Z Z Z (oj (Df Z Z Z ?_)))))))))))))))))))))))))))))))
 refine on (qn (C5 Z (fun ht=>absurd ht (by simp)) (fun hf=>(Ah (qn (Ab (Aa (oj (mv Z Z (oj (Cq Z Z (oj (Bh Z Z ty_207 (.tail _ (.head _)) (Z) (oj (Fc Z Z Z Tryz.underlying207 Bi (by simp only [List.length_cons]; omega) (fun w h=>Sl.some (h.1) (by simp)) (oj (D4 Z Z Bi Z (fun w h=>Cv (h.1) (by decide) (fun _=>Z) (show (x::rs)[0]? = some x from Z)) (Ac (d:=27) (v:=vA x) Z Z (oj (C7 Z Cc (fun r5=>(oj (C0 Z Z Bi Z Z .head (on ?_))))))))))))))))))))))))
 refine qn (Ab (Aa (oj (mv Z Z (oj (mv Z Z (oj (Cq Z Z (oj (Bh Z Z ty_207 (.tail _ (.tail _ (.head _))) (Z) (oj (slc (l':=1) Z Z Tryz.underlying207 Bi Z Z (.inl Z) ⟨_,Z,by simp only [List.length_cons]; omega⟩ (Ac (d:=32) (v:=.slice (if c=1 then a else a.map (·.add (1*4))) rs.length (c-1)) Z (by rw [hll]; rfl) (oj (Cq Z Z (oj (Cr Z Z ty_207 Z (.tail (.tail .head)) (.head Z) Z (on (qn (Ab (Aa (oj (Eb Z Z Bi (.head _) Z ?_)))))))))))))))))))))))
 exact oj (C0 Z Z Bi Z Z (.tail .head) (on (qn (Af (As (_,_) Z (.cellW Z Bi (.tail _ (.head _)) Z .nil) Z (by (try dsimp only); omega) (.cons _ (.cons _ (.refl _))) (fun w h=>⟨vr_tail (h.1),tR⟩) (.inl Z))))))
theorem Dt (r:Nat) (a:Option Addr) (c:Nat) (x:RV) (rs:List RV) (hl:(x::rs).length≤1000000000) (hk:x.kd=1):Ay Tryz.prog 145 [Bg r 0] [vrE r a (x::rs).length c] (fun w=>vrF a c (x::rs) w∧True) (fun y:Option Addr × Nat=>⟨rs.length≤y.2,iv x.nn,[vrE r y.1 rs.length y.2],fun w=>vrF y.1 y.2 rs w∧True⟩):=by
 refine Aj Tryz.func145 Z Z fun X w0=>(Ab (Aa (oj (Ak Z Z (on (qn (Ab (Aa (oj (mv Z Z (oj (Ce Z Z (.cons Z (.cons Z .nil)) fb_148 (hk ▸ rnext_spec r a c x rs hl) (fun _=>.head) (fun _=>Z) (fun w h=>⟨(h.1),tR⟩) ?_))))))))))))
 rintro ⟨ra,rc⟩ hrc
 try dsimp only at hrc
 try dsimp only
 exact oj (fld1 Z Z Er Ai Z (oj (Ak Z Z (on (qn (Af (As (ra,rc) Z (.tmp Z .nil) Z hrc (.refl _) (fun w h=>⟨(h.1.1),tR⟩) (.inl Z))))))))
theorem rtext_spec (r:Nat) (a:Option Addr) (c:Nat) (x:RV) (rs:List RV) (hl:(x::rs).length≤1000000000) (hk:x.kd=2):Ay Tryz.prog 211 [Bg r 0] [vrE r a (x::rs).length c] (fun w=>vrF a c (x::rs) w∧True) (fun y:Option Addr × Nat=>⟨rs.length≤y.2,.string (Iq x.ss),[vrE r y.1 rs.length y.2],fun w=>vrF y.1 y.2 rs w∧True⟩):=by
 refine Aj Tryz.func211 Z Z fun X w0=>(Ab (Aa (oj (Ak Z Z (on (qn (Ab (Aa (oj (mv Z Z (oj (Ce Z Z (.cons Z (.cons Z .nil)) fb_148 (hk ▸ rnext_spec r a c x rs hl) (fun _=>.head) (fun _=>Z) (fun w h=>⟨(h.1),tR⟩) ?_))))))))))))
 rintro ⟨ra,rc⟩ hrc
 try dsimp only at hrc
 try dsimp only
 exact oj (fld1 Z Z Eq G4 Z (oj (Ak Z Z (on (qn (Af (As (ra,rc) Z (.tmp Z .nil) Z hrc (.refl _) (fun w h=>⟨(h.1.1),tR⟩) (.inl Z))))))))
theorem rdigest_spec (r:Nat) (a:Option Addr) (c:Nat) (x:RV) (rs:List RV) (hl:(x::rs).length≤1000000000) (hk:x.kd=2) (dg:Dig) (hd:x.ss=dg.b):Ay Tryz.prog 146 [Bg r 0] [vrE r a (x::rs).length c] (fun w=>vrF a c (x::rs) w∧True) (fun y:Option Addr × Nat=>⟨rs.length≤y.2,dv dg,[vrE r y.1 rs.length y.2],fun w=>vrF y.1 y.2 rs w∧True⟩):=by
 refine Aj Tryz.func146 Z Z fun X w0=>(Ab (Aa (oj (C7 Z Jb (fun r2=>(on (qn (Ab (Aa (oj (mv Z Z (oj (Ce Z Z (.cons Z .nil) fb_211 (rtext_spec r a c x rs hl hk) (fun _=>(.tail .head)) (fun _=>Z) (fun w h=>⟨(h.1),tR⟩) ?_)))))))))))))
 rintro ⟨ra,rc⟩ hrc
 try dsimp only at hrc
 try dsimp only
 rw [hd]
 refine oj (Ak Z Z (on (qn (Ab (Ab (Aa (oj (mv Z Z (oj (lenstr Z Z Tryz.underlying9 Z (Ac (d:=7) (v:=iv 32) Z (by rw [bst_size,dg.h]; rfl) (oj (G2 Z Z Z (on (qn (C5 Z (fun ht=>absurd ht (by simp)) (fun hf=>(Ah (qn (Ab ?_))))))))))))))))))))
 exact Aa (oj (mv Z Z (oj (cvsb Z Z Tryz.underlying9 Tryz.underlying53 Tryz.underlying5 (fun a12 c12 hc12=>(oj (s2a Z Z Tryz.underlying23 (by rw [dg.h]; exact Nat.le_refl _) (oj (D4 Z Z Dc (by rw [Br]; exact dg.h) (fun w h=>Sl.all (h.1.1) (by rw [dg.h]; decide)) (Ac (d:=14) (v:=dv dg) Z Z (oj (Cf Z Z Dc Z .head (.head Z) Z (on (qn (Af (As (ra,rc) Z (Hk Z Dc (.head _) Z .nil) Z hrc (.cons _ (.refl _)) (fun w h=>⟨(h.2.1.1),tR⟩) (.inl Z)))))))))))))))))
theorem rlist_spec (r:Nat) (a:Option Addr) (c:Nat) (x:RV) (rs:List RV) (hl:(x::rs).length≤1000000000) (hk:x.kd=3):Ay Tryz.prog 147 [Bg r 0] [vrE r a (x::rs).length c] (fun w=>vrF a c (x::rs) w∧True) (fun y:(Option Addr × Nat) × Nat=>⟨rs.length≤y.1.2,.func (.func 212) #[] #[Bg y.2 0],[vrE r y.1.1 rs.length y.1.2],fun w=>vrF y.1.1 y.1.2 rs w∧Bc y.2 [S1 (.slice x.ad x.ll.length x.cp)] 59 w∧True⟩):=by
 refine Aj Tryz.func147 Z Z fun X w0=>(Ab (Aa (oj (Ak Z Z (on (qn (Ab (Aa (oj (mv Z Z (oj (Ce Z Z (.cons Z (.cons Z .nil)) fb_148 (hk ▸ rnext_spec r a c x rs hl) (fun _=>.head) (fun _=>Z) (fun w h=>⟨(h.1),tR⟩) ?_))))))))))))
 rintro ⟨ra,rc⟩ hrc
 try dsimp only at hrc
 try dsimp only
 refine oj (fld1 Z Z Cd B3 Z (oj (C7 Z zok_59 (fun r3=>(oj (Cr Z Z B3 Z .head (.head Z) Z (on (qn (Ab (Aa (oj (mkF Z .nil (.cons Z .nil) (oj (Ak Z Z (on (qn (Af (Al (Am 0 _ _ Z) ?_))))))))))))))))))
 try dsimp only [List.eraseIdx]
 exact As ((ra,rc),r3) Z (.tmp Z .nil) Z hrc (.refl _) (fun w h=>⟨(h.2.1.1),(h.1.1),tR⟩) (.inl Z)
theorem rwrap_spec (r:Nat) (a:Option Addr) (c:Nat) (x x2:RV) (rs:List RV) (hl:(x::x2::rs).length≤1000000000) (hk:x.kd=1) (hk2:x2.kd=2):Ay Tryz.prog 149 [Bg r 0] [vrE r a (x::x2::rs).length c] (fun w=>vrF a c (x::x2::rs) w∧True) (fun y:(Option Addr × Nat) × (Option Addr × Nat)=>⟨rs.length≤y.1.2∧x2.ss.length≤y.2.2,av [S1 (iv x.nn),S1 (.slice y.2.1 x2.ss.length y.2.2)],[vrE r y.1.1 rs.length y.1.2],fun w=>vrF y.1.1 y.1.2 rs w∧Sl 1 x2.ss.length (An x2.ss) (.slice y.2.1 x2.ss.length y.2.2) w∧True⟩):=by
 refine Aj Tryz.func149 Z Z fun X w0=>(Ab (Aa (oj (C7 Z zok_85 (fun r2=>(on (qn (Ab (Aa (oj (mv Z Z (oj (Ce Z Z (.cons Z .nil) Gw (Dt r a c x (x2::rs) hl hk) (fun _=>(.tail .head)) (fun _=>Z) (fun w h=>⟨(h.1),tR⟩) ?_)))))))))))))
 rintro ⟨ra,rc⟩ hrc
 try dsimp only at hrc
 try dsimp only
 refine oj (mv Z Z (oj (Ce Z Z (.cons Z .nil) fb_211 (rtext_spec r ra rc x2 rs (by simp at hl ⊢; omega) hk2) (fun _=>(.tail .head)) (fun _=>Z) (fun w h=>⟨(h.1.1),tR⟩) ?_)))
 rintro ⟨rb,rd⟩ hrd
 try dsimp only at hrd
 try dsimp only
 exact oj (cvsb Z Z Tryz.underlying9 Tryz.underlying53 Tryz.underlying5 (fun a7 c7 hc7=>(oj (A2 (o':=0) Z Z Kj Ai Z (oj (Cr Z Z Ai Z .head (.head Z) Z (oj (A2 (o':=1) Z Z H5 Bt Z (oj (Cr Z Z Bt Z .head (.tail (.head Z)) Z (on (qn (Ab (Aa (oj (Eb Z Z Ct (.head _) Z (oj (C0 Z Z Ct Z Z .head (on (qn (Af (As ((rb,rd),(a7,c7)) Z (.cellW Z Ct (.head _) Z .nil) Z ⟨hrd,hc7⟩ (.cons _ (.refl _)) (fun w h=>⟨(h.2.1.1),(h.1.1),tR⟩) (.inl Z)))))))))))))))))))))))
end Go.Chx
