/- Part of the proof that the law CommitsMembers holds. -/
import Derived.OpenShut
import Derived.Deep.Slices
import Derived.Carry
import Derived.Test.YtegbaopejhpnkaaGreatDoorAa
import Derived.Test.YtegbaopejhpnkaaGreatDoorAh
import Derived.Test.YtegbaopejhpnkaaGreatDoorAx
import Derived.Test.YtegbaopejhpnkaaGreatDoorBb
import Derived.Test.YtegbaopejhpnkaaGreatDoorBg
import Derived.Test.YtegbaopejhpnkaaGreatDoorBh
namespace Go.Chx
open Go Go.Proofs
set_option maxHeartbeats 1000000
set_option maxRecDepth 4000
theorem sih_45:Tryz.prog.stoodInHeld 45=false:=by kernel_rfl
theorem cellAt_of {segs:List Seg}:∀ {off:Nat} {v:Value},(flat segs)[off]? = some v→Hg segs off=some v:=by
 induction segs with
 | nil=>intro off v h; simp [flat] at h
 | cons s r ih =>
  intro off v h
  simp only [flat] at h
  simp only [Hg]
  cases hb:Nat.ble s.n off with
  | true =>
   have:=Nat.le_of_ble_eq_true hb
   rw [List.getElem?_append_right (by rw [s.h]; exact this),s.h] at h
   exact ih h
  | false =>
   have : ¬ s.n≤off:=fun h=>by rw [Nat.ble_eq_true_of_le h] at hb; cases hb
   rw [List.getElem?_append_left (by rw [s.h]; omega)] at h
   exact h
theorem and15 (y:Int):∃ k:Nat,k≤15∧bits .and .i64 y 15=(k:Int):=by
 refine ⟨(BitVec.ofInt 64 y &&& 15#64).toNat,?_,?_⟩
 ·rw [BitVec.toNat_and]; exact Nat.and_le_right
 ·show IntKind.wrap .i64 ((BitVec.ofInt 64 y &&& BitVec.ofInt 64 15).toNat:Int)=_
  have h2:BitVec.ofInt 64 15=15#64:=rfl
  rw [h2]
  have:(BitVec.ofInt 64 y &&& 15#64).toNat≤15:=by rw [BitVec.toNat_and]; exact Nat.and_le_right
  rw [Dr (by omega)]
theorem xor8 {m n:Nat} (hm:m < 256) (hn:n < 256):bits .xor .u8 (m:Int) (n:Int)=((m ^^^ n:Nat):Int):=by
 have h1:BitVec.ofInt 8 (m:Int)=BitVec.ofNat 8 m:=by simp
 have h2:BitVec.ofInt 8 (n:Int)=BitVec.ofNat 8 n:=by simp
 show IntKind.wrap .u8 ((BitVec.ofInt 8 (m:Int) ^^^ BitVec.ofInt 8 (n:Int)).toNat:Int)=_
 rw [h1,h2,BitVec.toNat_xor,BitVec.toNat_ofNat,BitVec.toNat_ofNat,Nat.mod_eq_of_lt (by omega),Nat.mod_eq_of_lt (by omega)]
 have:m ^^^ n < 2 ^ 8:=Nat.xor_lt_two_pow (by omega) (by omega)
 rw [wrap_u8 (by omega)]
def flD (p:Dig) (k:Nat):Dig:=⟨p.b.set (k+1) (UInt8.ofNat ((p.b.getD (k+1) 0).toNat ^^^ (k+1))),by rw [List.length_set]; exact p.h⟩
theorem fl_ne {p:Dig} {k:Nat} (hk:k≤15):flD p k≠p:=fun h=>by
 have h1:=congrArg (fun d:Dig=>d.b.getD (k+1) 0) h
 have hl:k+1 < p.b.length:=by rw [p.h]; omega
 simp only [flD,List.getD_eq_getElem?_getD,List.getElem?_set_self hl,Option.getD_some] at h1
 have h2:=congrArg UInt8.toNat h1
 have hb:=UInt8.toNat_lt (p.b[k+1]?.getD 0)
 have h4:(p.b[k+1]?.getD 0).toNat ^^^ (k+1) < 2 ^ 8:=Nat.xor_lt_two_pow hb (by omega)
 rw [UInt8.toNat_ofNat',Nat.mod_eq_of_lt h4] at h2
 have h3:=congrArg (fun z=>(p.b[k+1]?.getD 0).toNat ^^^ z) h2
 simp only [← Nat.xor_assoc,Nat.xor_self,Nat.zero_xor] at h3
 omega
def zc (c:Cm) (k:Nat):Nat→Cm
 | 0=>{ c with folder:=IntKind.wrap .i64 (c.folder+(1+(k:Int))) }
 | 1=>{ c with epoch:=IntKind.wrap .i64 (c.epoch+(1+(k:Int))) }
 | _=>{ c with parent:=flD c.parent k }
theorem wrap_i64_r (n:Int):i64 (IntKind.wrap .i64 n):=by
 unfold i64 IntKind.wrap
 simp only [IntKind.bits,IntKind.signed,Bool.true_and]
 split <;> rename_i h' <;> simp at h' <;> omega
theorem wrap_i64_ne {n:Int} {k:Nat} (h:i64 n) (hk:k≤15):IntKind.wrap .i64 (n+(1+(k:Int)))≠n:=by
 unfold i64 at h
 unfold IntKind.wrap
 simp only [IntKind.bits,IntKind.signed,Bool.true_and]
 split <;> rename_i h' <;> simp at h' <;> omega
theorem zc_i {c:Cm} {B k i:Nat} (h:CmI c B):CmI (zc c k i) B:=by
 match i with
 | 0=>exact ⟨wrap_i64_r _,h.ep,h.au,h.sr,h.ss,h.ch,h.path,h.bx,h.wl⟩
 | 1=>exact ⟨h.fo,wrap_i64_r _,h.au,h.sr,h.ss,h.ch,h.path,h.bx,h.wl⟩
 | _+2=>exact ⟨h.fo,h.ep,h.au,h.sr,h.ss,h.ch,h.path,h.bx,h.wl⟩
theorem zc_b {c:Cm} {k i:Nat} (h:CmB c):CmB (zc c k i):=by
 match i with
 | 0=>exact ⟨h.h1,h.h2,h.h3,h.h4⟩
 | 1=>exact ⟨h.h1,h.h2,h.h3,h.h4⟩
 | _+2=>exact ⟨h.h1,h.h2,h.h3,h.h4⟩
theorem zc_bx {c:Cm} {k i:Nat}:(zc c k i).bx=c.bx∧(zc c k i).wl=c.wl:=by
 match i with
 | 0=>exact ⟨rfl,rfl⟩
 | 1=>exact ⟨rfl,rfl⟩
 | _+2=>exact ⟨rfl,rfl⟩
theorem zc_220 {g:Gp} {c:Cm} {k i:Nat} {B:Nat} (a:Acc g c) (hi:CmI c B) (hk:k≤15):nxE g (zc c k i)=220:=by
 refine nx_other a ?_
 match i with
 | 0=>exact .inl fun h=>wrap_i64_ne hi.fo hk (h.trans a.fo.symm)
 | 1=>exact .inr (.inl fun h=>wrap_i64_ne hi.ep hk (h.trans a.ep.symm))
 | _+2=>exact .inr (.inr fun h=>fl_ne hk (h.trans a.pa.symm))
theorem zc_f {c:Cm} {k i:Nat} {w:World} (h:CF1 c w∧CF2 c w∧CF3 c w∧CF4 c w∧CF5 c w∧CF6 c w):CF1 (zc c k i) w∧CF2 (zc c k i) w∧CF3 (zc c k i) w∧CF4 (zc c k i) w∧CF5 (zc c k i) w∧CF6 (zc c k i) w:=by
 match i with
 | 0=>exact h
 | 1=>exact h
 | _+2=>exact h
theorem zc_set {c:Cm} {k:Nat} (hk:k≤15):flat (zc c k 2).segs=(flat c.segs).set (2+(k+1)) (.int .u8 (bits .xor .u8 ((c.parent.b.getD (k+1) 0).toNat:Int) (IntKind.wrap .u8 (1+(k:Int))))):=by
 have hb:=UInt8.toNat_lt (c.parent.b.getD (k+1) 0)
 rw [show (1+(k:Int))=((k+1:Nat):Int) by omega,wrap_u8 (by omega),xor8 (by omega) (by omega)]
 have h4:(c.parent.b.getD (k+1) 0).toNat ^^^ (k+1) < 2 ^ 8:=Nat.xor_lt_two_pow hb (by omega)
 show [iv c.folder,iv c.epoch]++(An (flD c.parent k).b++_)=([iv c.folder,iv c.epoch]++(An c.parent.b++_)).set _ _
 rw [List.set_append_right _ _ (by simp),List.set_append_left _ _ (by rw [Br,c.parent.h]; simp; omega)]
 simp only [flD,An,List.map_set,List.length_cons,List.length_nil,UInt8.toNat_ofNat',Nat.mod_eq_of_lt h4]
 congr 3
 omega
theorem zc_get {c:Cm} {k:Nat} (hk:k≤15):Hg c.segs (2+(k+1))=some (.int .u8 ((c.parent.b.getD (k+1) 0).toNat:Int)):=by
 refine cellAt_of ?_
 show ([iv c.folder,iv c.epoch]++(An c.parent.b++_))[_]? = _
 have hl:k+1 < c.parent.b.length:=by rw [c.parent.h]; omega
 rw [List.getElem?_append_right (by simp),List.getElem?_append_left (by rw [Br]; simp; omega)]
 have e:2+(k+1)-[iv c.folder,iv c.epoch].length=k+1:=by show 2+(k+1)-2=k+1; omega
 rw [e]
 simp [An,hl]
def cnM (ms:List Mb) (n:Nat):Nat:=(List.range n).countP fun d:Nat=>(mbO ms (d:Int)).isSome
theorem cnM_s (ms:List Mb) (n:Nat):cnM ms (n+1)=cnM ms n+if (mbO ms (n:Int)).isSome=true then 1 else 0:=by
 unfold cnM
 rw [List.range_succ,List.countP_append,List.countP_singleton]
theorem cnM_le (ms:List Mb) (n:Nat):cnM ms n≤n:=by unfold cnM; have:=List.countP_le_length (p:=fun d:Nat=>(mbO ms (d:Int)).isSome) (l:=List.range n); simpa using this
theorem fewC_h {c:Cm} (h:Kq c=true):CmB c∧(∀ x∈c.bx,x.b.length≤200)∧∀ x∈c.wl,x.b.length≤200:=by
 simp only [Kq,fewH,Bool.and_eq_true,decide_eq_true_eq,List.all_eq_true] at h
 obtain ⟨⟨⟨⟨⟨h1,h2⟩,h3⟩,h4⟩,h5⟩,h6⟩:=h
 exact ⟨cmb_small h3 h4 (by omega) (by omega),h1,h2⟩
theorem fewG_h {g:Gp} (h:fewG g=true):g.ms.length≤8∧g.tr.l.length≤80:=by
 simpa only [fewG,Bool.and_eq_true,decide_eq_true_eq] using h
theorem members_spec0 (g:Gp) (c:Cm) (y:Int) (k:Nat) (hk:k≤15) (hy:bits .and .i64 y 15=(k:Int)) (htc:g.tr.l.length≤g.tr.c) (hbx:c.bx.length≤9223372036854775807) (hwx:c.wl.length≤9223372036854775807) (hcI:Kq c=true→CmI c 200):Ay Tryz.prog 3 [av g.segs,av c.segs,iv y] [] (fun w=>GF1 g w∧g.tr.F w∧CF1 c w∧CF2 c w∧CF3 c w∧CF4 c w∧CF5 c w∧CF6 c w∧De 1 (Av .u32 B9) w∧De 3 (Av .u32 D1) w∧De 6 (Av .u32 E7) w∧De 0 (labs.map fun s=>.string (Iq s)) w∧True) (fun _:Unit=>⟨True,.bool true,[],fun _=>True⟩):=by
 refine Aj Tryz.func3 Z Z fun X w0=>(Ab (Aa (oj (C6 Z Z (fun r3=>(oj (C6 Z Z (fun r4=>(oj (Ak Z Z (on (qn (Ab (Ab (Aa (oj (Ao Z Z .nil fb_8 (sane_spec )  (fun w h=>⟨(Gg h),(Io h),(Ew h),(Fh h),tR⟩) Z (fun _=>(Ae (fun w h=>h.2) (oj (not Z Z (on (qn ?_)))))))))))))))))))))))
 refine Ap Z (fun h=>by cases h) (fun _=>(Ah (qn (Ab (Ab (Aa (oj (Eb Z Z B4 (.tail _ (.head _)) Z (oj (Ao Z Z (.cons Z .nil) fb_9 (fewg_spec g)  (fun w h=>tR) Z (fun _=>(Ae (fun w h=>h.2) (oj (not Z Z (oj (mv Z Z ?_))))))))))))))))
 refine Dn (d:=26) Z (fun k1=>?_) (fun k1=>?_)
 ·exact oj (gf Z Z Z Z Z Z (oj (gf Z Z Z Z Z Z (oj (gf Z Z Z Z Z Z (oj (Cl Z Z Z (on (qn (Ap Z (fun _=>(Ab (Aa (oj (Ak Z Z (on (qn (Af (qr (As () Z (.tmp Z .nil) Z tR (Bl _) (fun w h=>tR) (.inl Z))))))))))) (fun h=>by cases h)))))))))))
 ·refine oj (gt Z Z Z ((Eb Z Z Bk (.head _) Z (oj (gt Z Z Z ((Ao Z Z (.cons Z .nil) fb_10 (fewc_spec c hbx hwx)  (fun w h=>⟨(Dw h),(Ec h),tR⟩) Z (fun _=>(Ae (fun w h=>h.2) (oj (gt Z Z Z ((not Z Z (oj (Df Z Z Z (on (qn ?_)))))))))))))))))
  refine Ap Z (fun k2=>?_) (fun k2=>?_)
  ·exact Ab (Aa (oj (Ak Z Z (on (qn (Af (qr (As () Z (.tmp Z .nil) Z tR (Bl _) (fun w h=>tR) (.inl Z)))))))))
  ·have hfg:fewG g=true:=by simpa using k1
   have hfc:Kq c=true:=by simpa using k2
   obtain ⟨hgl,hgt⟩:=fewG_h hfg
   obtain ⟨hcb,hcx,hcw⟩:=fewC_h hfc
   have hci:=hcI hfc
   have hcok:CmOk c:=hci.ok (by omega) hcb
   refine Ah (qn (Ab (Aa (oj (Eb Z Z B4 (.tail _ (.head _)) Z (oj (Eb Z Z Bk (.head _) Z (oj (call Z Z (.cons Z (.cons Z .nil)) fb_11 (I3 g c (by omega) (by omega) htc hcok (fun x hx=>by have:=hcx x hx; omega) (fun x hx=>by have:=hcw x hx; omega))  (fun w h=>⟨(h.1),(h.2.1),(h.2.2.1),(Cu h),(Dw h),(Ez h),(Ec h),(Fg h),(Gg h),(Io h),tR⟩) ?_)))))))))
   rintro gx ⟨hnr,hnz⟩
   try dsimp only
   refine oj (mv Z Z (oj (ext Z Z Z (oj (ext Z Z Z (oj (C7 Z zok_29 (fun r7=>(oj (C0 Z Z B4 Z Z .head (oj (Ak Z Z (on (qn (Ab (Ab (Aa (oj (mv Z Z (oj (G2 Z Z Z (on (qn ?_)))))))))))))))))))))))
   refine C5 Z (fun hne=>?_) (fun heq=>?_)
   ·obtain rfl:=hnz hne
    exact Ab (Aa (oj (A2 (o':=34) Z Z Dg Dl Z (oj (Bh Z Z Dl (.head _) (Z) (oj (Bn Z Z Tryz.underlying24 Z (oj (Eu Z Z Z (oj (Ak Z Z (on (qn (Af (qr (As () Z (.tmp Z .nil) Z tR (Bl _) (fun w h=>tR) (.inl Z)))))))))))))))))
   ·have hr:=hnr heq
    have hacc:=nx_acc heq
    have hxl:gx.ms.length≤512:=by rw [← mem_cnt hacc hr]; exact cnM_le gx.ms 512
    refine Ah (qn (Ab (Aa (oj (Ak Z Z (on (qn (Ab (Ab (Aa (oj (mv Z Z (on (qn (Ag (Aw (fun (sT:(Nat))=>(⟨sT≤512,[(2,iv y),(3,Bg r3 0),(4,Bg r4 0),(7,Bg r7 0),(9,iv (cnM gx.ms sT:Int)),(43,iv (sT:Int))],[bx r7 gx.segs 29,bx r4 c.segs 37,bx r3 g.segs 29],fun w=>GF1 g w∧g.tr.F w∧CF1 c w∧CF2 c w∧CF3 c w∧CF4 c w∧CF5 c w∧CF6 c w∧De 1 (Av .u32 B9) w∧De 3 (Av .u32 D1) w∧De 6 (Av .u32 E7) w∧De 0 (labs.map fun s=>.string (Iq s)) w∧GF1 gx w∧True,512-sT⟩:Hd)) (0) (Nat.zero_le _) (⟨Z,Z,Z,Z,Z,Z,tR⟩) (.refl _) (fun w h=>⟨(h.2.1),(h.2.2.1),(Cu h),(Dw h),(Ez h),(Ec h),(Fg h),(Gg h),(Io h),(Ew h),(Fh h),(Ev h),(h.1.1),tR⟩) ?_))))))))))))))))
    rintro d hd
    try dsimp only
    refine Ab (Aa (oj (Dd Z Z Z (on (qn (Ab ?_))))))
    refine A8 Z (fun hlt=>?_) (fun hge=>?_)
    ·have hcn:=cnM_le gx.ms d
     refine Ah (qn (Ab (Ag (Ab (Aa (oj (mv Z Z (oj (Ak Z Z (on (qn (Ab (Aa (oj (Eb Z Z B4 (.tail _ (.tail _ (.head _))) Z (oj (mv Z Z (oj (Ao Z Z (.cons Z (.cons Z .nil)) fb_12 (fmember_spec g (d:Int) (by omega))  (fun w h=>⟨(h.1),tR⟩) Z (fun _=>(Ae (fun w h=>h.2) ?_)))))))))))))))))))))
     refine oj (mv Z Z (oj (ext Z Z Z (oj (ext Z Z Z (oj (C7 Z zok_45 (fun r11=>(oj (C0 Z Z Dk Z Z .head (oj (Ak Z Z (on (qn (Ab (Aa (oj (Eb Z Z B4 (.tail _ (.head _)) Z (oj (mv Z Z (oj (Ao Z Z (.cons Z (.cons Z .nil)) fb_12 (fmember_spec gx (d:Int) (by omega))  (fun w h=>⟨(Ev h),tR⟩) Z (fun _=>(Ae (fun w h=>h.2) (oj (mv Z Z (oj (ext Z Z Z ?_))))))))))))))))))))))))))))
     refine oj (ext Z Z Z (oj (C7 Z zok_45 (fun r13=>(oj (C0 Z Z Dk Z Z .head (oj (Ak Z Z (on (qn (Ab (Aa (oj (A2 (o':=35) Z Z Es Et Z (oj (Bh Z Z Et (.tail _ (.tail _ (.tail _ (.head _)))) (Z) (oj (mv Z Z (oj (Ao Z Z (.cons Z (.cons Z .nil)) fb_13 (fof_spec c.cA c.cC c.ch (d:Int) (by have:=hcb.h1; omega))  (fun w h=>⟨(h.2.2.1),tR⟩) Z (fun _=>(Ae (fun w h=>h.2) (oj (mv Z Z (oj (ext Z Z Z (oj (ext Z Z Z ?_))))))))))))))))))))))))))))
     refine oj (C7 Z Fv (fun r15=>(oj (C0 Z Z Cp Z Z .head (oj (Ak Z Z (on (qn (Ab (Ab (Aa (oj (mv Z Z (on (qn ?_)))))))))))))))
     refine Ap Z (fun hs1=>?_) (fun hs1=>?_)
     ·refine Aa (oj (mv Z Z (oj (add Z Z Z (by omega) (Ac (d:=67) (v:=iv (cnM gx.ms (d+1):Int)) Z (by rw [cnM_s,hs1]; simp) (oj (Ak Z Z (on (qn (Ag (Ab (Aa (oj (mv Z Z (oj (not Z Z (oj (Ak Z Z (on (qn ?_))))))))))))))))))))
      refine Ap Z (fun ho=>?_) (fun ho=>?_)
      ·have hO:chO c.ch (d:Int)=none:=by simpa using ho
       have hM:=mem_none hacc hr hO
       refine Ab (Aa (oj (mv Z Z (oj (mv Z Z (oj (neb Z Z Z Tryz.underlying4 (Ac (d:=92) (v:=.bool false) Z (by rw [hM]; simp) (oj (mv Z Z (oj (gt Z Z Z ((Eb Z Z Dk (.tail _ (.tail _ (.head _))) Z (oj (gt Z Z Z ((Eb Z Z Dk (.tail _ (.head _)) Z (oj (gt Z Z Z ((ne3 Z Z Z Tryz.underlying45 Z sih_45 Tryz.underlying3 Ai eg_45 (Ac (d:=96) (v:=.bool false) Z (by rw [hM]; simp) (oj (Df Z Z Z (on ?_))))))))))))))))))))))))))
       exact qn (Ap Z (fun h=>by cases h) (fun _=>(Ah (bn (bn (qn (Aa (oj (add Z Z Z (by omega) (oj (mv Z Z (on (qn (Ar (d+1) (by dsimp only; omega) ((by omega)) (⟨Z,Z,Z,Z,Z,Z,tR⟩) (.cons _ (.cons _ (.cons _ (.refl _)))) (fun w h=>⟨(h.1),(h.2.1),(h.2.2.1),(Cu h),(Dw h),(Ez h),(Ec h),(Fg h),(Gg h),(Io h),(Ew h),(Fh h),(Ev h),tR⟩)))))))))))))))
      ·obtain ⟨q,hO⟩:∃ q,chO c.ch (d:Int)=some q:=Option.isSome_iff_exists.1 (by simpa using ho)
       refine Ab (Aa (oj (A2 (o':=0) Z Z F0 Ai Z (oj (Bh Z Z Ai (.head _) (Z) (oj (Eu Z Z Z (oj (Ak Z Z (on (qn ?_)))))))))))
       refine Fq Z (fun hk2=>?_) (fun hk2=>?_)
       ·have hK:q.k=2:=by rw [hO] at hk2; exact hk2
        obtain ⟨hA,hB⟩:=mem_rem hacc hr hO hK
        refine Ab (Aa (oj (mv Z Z (oj (not Z Z (Ac (d:=103) (v:=.bool false) Z (by rw [hA]; rfl) (oj (mv Z Z (oj (gt Z Z Z ((mv Z Z (Ac (d:=105) (v:=.bool false) Z (by rw [hB]; rfl) (oj (Df Z Z Z (on (qn (Ap Z (fun h=>by cases h) (fun _=>(Ah (bn (bn ?_))))))))))))))))))))))
        exact qn (Aa (oj (add Z Z Z (by omega) (oj (mv Z Z (on (qn (Ar (d+1) (by dsimp only; omega) ((by omega)) (⟨Z,Z,Z,Z,Z,Z,tR⟩) (.cons _ (.cons _ (.cons _ (.refl _)))) (fun w h=>⟨(h.1),(h.2.1),(h.2.2.1),(Cu h),(Dw h),(Ez h),(Ec h),(Fg h),(Gg h),(Io h),(Ew h),(Fh h),(Ev h),tR⟩)))))))))
       ·have hK:q.k≠2:=by rw [hO] at hk2; exact hk2
        obtain ⟨hA,hB⟩:=mem_new hacc hr hO hK
        refine Ab (Aa (oj (mv Z Z (oj (not Z Z (Ac (d:=69) (v:=.bool false) Z (by rw [hB]; rfl) (oj (mv Z Z (oj (gt Z Z Z ((mv Z Z (oj (gt Z Z Z ((A2 (o':=0) Z Z F0 Ai Z (oj (gt Z Z Z ((Bh Z Z Ai (.head _) (Z) (oj (gt Z Z Z ((Eu Z Z Z (oj (gt Z Z Z ((eqb Z Z Z Tryz.underlying4 ?_))))))))))))))))))))))))))))
        refine Ac (d:=75) (v:=.bool false) Z (by rw [hA,hO]; by_cases hq1:q.k=1 <;> simp [hq1]) (oj (Df Z Z Z (oj (mv Z Z (oj (gt Z Z Z ((Eb Z Z Dk (.tail _ (.head _)) Z (oj (gt Z Z Z ((mv Z Z (oj (gt Z Z Z ((A2 (o':=1) Z Z Fj Ai Z (oj (gt Z Z Z ((Bh Z Z Ai (.tail _ (.tail _ (.tail _ (.tail _ (.head _))))) (Z) (oj (gt Z Z Z ((A2 (o':=3) Z Z H6 Ai Z (oj (gt Z Z Z ((Bh Z Z Ai (.head _) (Z) (oj (gt Z Z Z ?_))))))))))))))))))))))))))))))
        refine (bld Z lay_45 (Ch Z Z (.head Z) (Ch Z Z (.tail (.head Z)) (Ch Z Z (.tail (.tail (.head Z))) .nil))) (Ac (d:=84) (v:=av (Mb.segs ⟨(d:Int),c.epoch,q.v⟩)) Z (by rw [hO]; rfl) (oj (gt Z Z Z ((ne3 Z Z Z Tryz.underlying45 Z sih_45 Tryz.underlying3 Ai eg_45 (Ac (d:=85) (v:=.bool false) Z (by rw [hB]; simp) (oj (Df Z Z Z (on (qn (Ap Z (fun h=>by cases h) (fun _=>(Ah (bn (bn (qn (Aa (oj (add Z Z Z (by omega) (oj (mv Z Z ?_))))))))))))))))))))))
        exact on (qn (Ar (d+1) (by dsimp only; omega) ((by omega)) (⟨Z,Z,Z,Z,Z,Z,tR⟩) (.cons _ (.cons _ (.cons _ (.refl _)))) (fun w h=>⟨(h.1),(h.2.1),(h.2.2.1),(Cu h),(Dw h),(Ez h),(Ec h),(Fg h),(Gg h),(Io h),(Ew h),(Fh h),(Ev h),tR⟩)))
     ·refine Ac (d:=9) (v:=iv (cnM gx.ms (d+1):Int)) Z (by rw [cnM_s,hs1]; simp) (Ah (qn (Ag (Ab (Aa (oj (mv Z Z (oj (not Z Z (oj (Ak Z Z (on (qn ?_)))))))))))))
      refine Ap Z (fun ho=>?_) (fun ho=>?_)
      ·have hO:chO c.ch (d:Int)=none:=by simpa using ho
       have hM:=mem_none hacc hr hO
       refine Ab (Aa (oj (mv Z Z (oj (mv Z Z (oj (neb Z Z Z Tryz.underlying4 (Ac (d:=92) (v:=.bool false) Z (by rw [hM]; simp) (oj (mv Z Z (oj (gt Z Z Z ((Eb Z Z Dk (.tail _ (.tail _ (.head _))) Z (oj (gt Z Z Z ((Eb Z Z Dk (.tail _ (.head _)) Z (oj (gt Z Z Z ((ne3 Z Z Z Tryz.underlying45 Z sih_45 Tryz.underlying3 Ai eg_45 (Ac (d:=96) (v:=.bool false) Z (by rw [hM]; simp) (oj (Df Z Z Z (on ?_))))))))))))))))))))))))))
       exact qn (Ap Z (fun h=>by cases h) (fun _=>(Ah (bn (bn (qn (Aa (oj (add Z Z Z (by omega) (oj (mv Z Z (on (qn (Ar (d+1) (by dsimp only; omega) ((by omega)) (⟨Z,Z,Z,Z,Z,Z,tR⟩) (.cons _ (.cons _ (.cons _ (.refl _)))) (fun w h=>⟨(h.1),(h.2.1),(h.2.2.1),(Cu h),(Dw h),(Ez h),(Ec h),(Fg h),(Gg h),(Io h),(Ew h),(Fh h),(Ev h),tR⟩)))))))))))))))
      ·obtain ⟨q,hO⟩:∃ q,chO c.ch (d:Int)=some q:=Option.isSome_iff_exists.1 (by simpa using ho)
       refine Ab (Aa (oj (A2 (o':=0) Z Z F0 Ai Z (oj (Bh Z Z Ai (.head _) (Z) (oj (Eu Z Z Z (oj (Ak Z Z (on (qn ?_)))))))))))
       refine Fq Z (fun hk2=>?_) (fun hk2=>?_)
       ·have hK:q.k=2:=by rw [hO] at hk2; exact hk2
        obtain ⟨hA,hB⟩:=mem_rem hacc hr hO hK
        refine Ab (Aa (oj (mv Z Z (oj (not Z Z (Ac (d:=103) (v:=.bool false) Z (by rw [hA]; rfl) (oj (mv Z Z (oj (gt Z Z Z ((mv Z Z (Ac (d:=105) (v:=.bool false) Z (by rw [hB]; rfl) (oj (Df Z Z Z (on (qn (Ap Z (fun h=>by cases h) (fun _=>(Ah (bn (bn ?_))))))))))))))))))))))
        exact qn (Aa (oj (add Z Z Z (by omega) (oj (mv Z Z (on (qn (Ar (d+1) (by dsimp only; omega) ((by omega)) (⟨Z,Z,Z,Z,Z,Z,tR⟩) (.cons _ (.cons _ (.cons _ (.refl _)))) (fun w h=>⟨(h.1),(h.2.1),(h.2.2.1),(Cu h),(Dw h),(Ez h),(Ec h),(Fg h),(Gg h),(Io h),(Ew h),(Fh h),(Ev h),tR⟩)))))))))
       ·have hK:q.k≠2:=by rw [hO] at hk2; exact hk2
        obtain ⟨hA,hB⟩:=mem_new hacc hr hO hK
        refine Ab (Aa (oj (mv Z Z (oj (not Z Z (Ac (d:=69) (v:=.bool false) Z (by rw [hB]; rfl) (oj (mv Z Z (oj (gt Z Z Z ((mv Z Z (oj (gt Z Z Z ((A2 (o':=0) Z Z F0 Ai Z (oj (gt Z Z Z ((Bh Z Z Ai (.head _) (Z) (oj (gt Z Z Z ((Eu Z Z Z (oj (gt Z Z Z ((eqb Z Z Z Tryz.underlying4 ?_))))))))))))))))))))))))))))
        refine Ac (d:=75) (v:=.bool false) Z (by rw [hA,hO]; by_cases hq1:q.k=1 <;> simp [hq1]) (oj (Df Z Z Z (oj (mv Z Z (oj (gt Z Z Z ((Eb Z Z Dk (.tail _ (.head _)) Z (oj (gt Z Z Z ((mv Z Z (oj (gt Z Z Z ((A2 (o':=1) Z Z Fj Ai Z (oj (gt Z Z Z ((Bh Z Z Ai (.tail _ (.tail _ (.tail _ (.tail _ (.head _))))) (Z) (oj (gt Z Z Z ((A2 (o':=3) Z Z H6 Ai Z (oj (gt Z Z Z ((Bh Z Z Ai (.head _) (Z) (oj (gt Z Z Z ?_))))))))))))))))))))))))))))))
        refine (bld Z lay_45 (Ch Z Z (.head Z) (Ch Z Z (.tail (.head Z)) (Ch Z Z (.tail (.tail (.head Z))) .nil))) (Ac (d:=84) (v:=av (Mb.segs ⟨(d:Int),c.epoch,q.v⟩)) Z (by rw [hO]; rfl) (oj (gt Z Z Z ((ne3 Z Z Z Tryz.underlying45 Z sih_45 Tryz.underlying3 Ai eg_45 (Ac (d:=85) (v:=.bool false) Z (by rw [hB]; simp) (oj (Df Z Z Z (on (qn (Ap Z (fun h=>by cases h) (fun _=>(Ah (bn (bn (qn (Aa (oj (add Z Z Z (by omega) (oj (mv Z Z ?_))))))))))))))))))))))
        exact on (qn (Ar (d+1) (by dsimp only; omega) ((by omega)) (⟨Z,Z,Z,Z,Z,Z,tR⟩) (.cons _ (.cons _ (.cons _ (.refl _)))) (fun w h=>⟨(h.1),(h.2.1),(h.2.2.1),(Cu h),(Dw h),(Ez h),(Ec h),(Fg h),(Gg h),(Io h),(Ew h),(Fh h),(Ev h),tR⟩)))
    ·have hd5:d=512:=by omega
     subst hd5
     refine A1 (qe (qe (be (qn (Ab (Aa (oj (mv Z Z (oj (band Z Z Z (Ac (d:=109) (v:=iv (k:Int)) Z (by exact congrArg (Value.int .i64) hy) (oj (add Z Z Z (by omega) (oj (Ak Z Z (on (qn (Ab (Ab ?_)))))))))))))))))))
     refine Aa (oj (mv Z Z (on (qn (Ag (Aw (fun (sT:(Nat))=>(⟨sT≤3,[(2,iv (1+(k:Int))),(3,Bg r3 0),(4,Bg r4 0),(7,Bg r7 0),(9,iv (cnM gx.ms 512:Int)),(111,iv (sT:Int))],[bx r7 gx.segs 29,bx r4 c.segs 37,bx r3 g.segs 29],fun w=>GF1 g w∧g.tr.F w∧CF1 c w∧CF2 c w∧CF3 c w∧CF4 c w∧CF5 c w∧CF6 c w∧De 1 (Av .u32 B9) w∧De 3 (Av .u32 D1) w∧De 6 (Av .u32 E7) w∧De 0 (labs.map fun s=>.string (Iq s)) w∧GF1 gx w∧True,3-sT⟩:Hd)) (0) (Nat.zero_le _) (⟨Z,Z,Z,Z,Z,Z,tR⟩) (.refl _) (fun w h=>⟨(h.1),(h.2.1),(h.2.2.1),(Cu h),(Dw h),(Ez h),(Ec h),(Fg h),(Gg h),(Io h),(Ew h),(Fh h),(Ev h),tR⟩) ?_))))))
     rintro i hi
     try dsimp only
     refine Ab (Aa (oj (Dd Z Z Z (on (qn (Ab ?_))))))
     refine A8 Z (fun hlt=>?_) (fun hge=>?_)
     ·refine Ah (qn (Ab (Ag (Ab (Aa (oj (mv Z Z (oj (Ak Z Z (on (qn (Ab (Aa (oj (Eb Z Z Bk (.tail _ (.head _)) Z (oj (C7 Z zok_37 (fun r18=>(oj (C0 Z Z Bk Z Z .head (on ?_)))))))))))))))))))))
      refine qn (Ab (Ab (Aa (oj (mv Z Z (on (qn (Ag (Ab (Aa (oj (Eu Z Z Z (oj (Ak Z Z (on (qn ?_))))))))))))))))
      refine Fq Z (fun h0=>?_) (fun h0=>?_)
      ·refine Aa (oj (A2 (o':=0) Z Z Jj Ai Z (oj (Bh Z Z Ai (.head _) (Z) (oj (mv Z Z (oj (Id Z Z Z (oj (A2 (o':=0) Z Z Jj Ai Z (oj (Cr Z Z Ai Z .head (.head Z) Z (on (bn (qn (Ab (Aa (oj (Eb Z Z B4 (.tail _ (.tail _ (.tail _ (.head _)))) Z (oj (Eb Z Z Bk (.head _) Z (Ac (d:=143) (v:=av (zc c k i).segs) Z (by first | (obtain rfl:i=0:=(by omega); rfl) | (obtain rfl:i=1:=(by omega); rfl) | (obtain rfl:i=2:=(by omega); rfl)) (oj (call Z Z (.cons Z (.cons Z .nil)) fb_11 (I3 g (zc c k i) (by omega) (by omega) htc ((zc_i hci).ok (by omega) (zc_b hcb)) (fun x hx=>by rw [zc_bx.1] at hx; have:=hcx x hx; omega) (fun x hx=>by rw [zc_bx.2] at hx; have:=hcw x hx; omega))  (fun w h=>(by obtain ⟨z1,z2,z3,z4,z5,z6⟩:=zc_f (k:=k) (i:=i) ⟨(h.2.2.1),(Cu h),(Dw h),(Ez h),(Ec h),(Fg h)⟩; exact ⟨(h.1),(h.2.1),z1,z2,z3,z4,z5,z6,(Gg h),(Io h),trivial⟩)) ?_))))))))))))))))))))))))
       rintro gy _
       try dsimp only
       refine oj (mv Z Z (oj (ext Z Z Z (oj (ext Z Z Z (oj (C7 Z zok_29 (fun r19=>(oj (C0 Z Z B4 Z Z .head (oj (Ak Z Z (on (qn (Ab (Aa (oj (mv Z Z (oj (G2 Z Z Z (on (qn (C5 Z (fun hne2=>absurd hne2 (fun h=>h (zc_220 hacc hci hk))) (fun heq2=>(Ah ?_)))))))))))))))))))))))))
       exact bn (qn (Aa (oj (add Z Z Z (by omega) (oj (mv Z Z (on (qn (Ar (i+1) (by dsimp only; omega) ((by omega)) (⟨Z,Z,Z,Z,Z,Z,tR⟩) (.cons _ (.cons _ (.refl _))) (fun w h=>⟨(h.2.1),(h.2.2.1),(Cu h),(Dw h),(Ez h),(Ec h),(Fg h),(Gg h),(Io h),(Ew h),(Fh h),(Ev h),(Jr h),tR⟩))))))))))
      ·refine Ab (Aa (oj (Eu Z Z Z (oj (Ak Z Z (on (qn ?_)))))))
       refine Fq Z (fun h1=>?_) (fun h1=>?_)
       ·refine Aa (oj (A2 (o':=1) Z Z Fj Ai Z (oj (Bh Z Z Ai (.head _) (Z) (oj (mv Z Z (oj (Id Z Z Z (oj (A2 (o':=1) Z Z Fj Ai Z (oj (Cr Z Z Ai Z .head (.tail (.head Z)) Z (on (bn (qn (Ab (Aa (oj (Eb Z Z B4 (.tail _ (.tail _ (.tail _ (.head _)))) Z (oj (Eb Z Z Bk (.head _) Z (Ac (d:=143) (v:=av (zc c k i).segs) Z (by first | (obtain rfl:i=0:=(by omega); rfl) | (obtain rfl:i=1:=(by omega); rfl) | (obtain rfl:i=2:=(by omega); rfl)) (oj (call Z Z (.cons Z (.cons Z .nil)) fb_11 (I3 g (zc c k i) (by omega) (by omega) htc ((zc_i hci).ok (by omega) (zc_b hcb)) (fun x hx=>by rw [zc_bx.1] at hx; have:=hcx x hx; omega) (fun x hx=>by rw [zc_bx.2] at hx; have:=hcw x hx; omega))  (fun w h=>(by obtain ⟨z1,z2,z3,z4,z5,z6⟩:=zc_f (k:=k) (i:=i) ⟨(h.2.2.1),(Cu h),(Dw h),(Ez h),(Ec h),(Fg h)⟩; exact ⟨(h.1),(h.2.1),z1,z2,z3,z4,z5,z6,(Gg h),(Io h),trivial⟩)) ?_))))))))))))))))))))))))
        rintro gy _
        try dsimp only
        refine oj (mv Z Z (oj (ext Z Z Z (oj (ext Z Z Z (oj (C7 Z zok_29 (fun r19=>(oj (C0 Z Z B4 Z Z .head (oj (Ak Z Z (on (qn (Ab (Aa (oj (mv Z Z (oj (G2 Z Z Z (on (qn (C5 Z (fun hne2=>absurd hne2 (fun h=>h (zc_220 hacc hci hk))) (fun heq2=>(Ah ?_)))))))))))))))))))))))))
        exact bn (qn (Aa (oj (add Z Z Z (by omega) (oj (mv Z Z (on (qn (Ar (i+1) (by dsimp only; omega) ((by omega)) (⟨Z,Z,Z,Z,Z,Z,tR⟩) (.cons _ (.cons _ (.refl _))) (fun w h=>⟨(h.2.1),(h.2.2.1),(Cu h),(Dw h),(Ez h),(Ec h),(Fg h),(Gg h),(Io h),(Ew h),(Fh h),(Ev h),(Jr h),tR⟩))))))))))
       ·refine Ab (Aa (oj (Eu Z Z Z (oj (Ak Z Z (on (qn (Fq Z (fun h2=>(Aa (oj (mv Z Z (oj (A2 (o':=2) Z Z Kl Dc Z (oj (Gj (n':=2+(k+1)) Z Z Z Tryz.underlying23 Bv (by omega) (by omega) (oj (Bh Z Z Bv (.head _) (zc_get hk) (oj (mv Z Z (oj (Ig Z Tryz.underlying3 Tryz.underlying5 Z (oj (bxor Z Z Z (oj (A2 (o':=2) Z Z Kl Dc Z ?_)))))))))))))))))) (fun hf=>absurd hf (by omega))))))))))
        refine oj (Gj (n':=2+(k+1)) Z Z Z Tryz.underlying23 Bv (by omega) (by omega) (oj (stX ((zc c k 2).segs) Z Z Bv Z .head (by rw [He]; show 2+(k+1) < 1+(1+(32+_)); omega) (zc_set hk) (on (bn (qn (Ab (Aa (oj (Eb Z Z B4 (.tail _ (.tail _ (.tail _ (.head _)))) Z (oj (Eb Z Z Bk (.head _) Z (Ac (d:=143) (v:=av (zc c k i).segs) Z (by first | (obtain rfl:i=0:=(by omega); rfl) | (obtain rfl:i=1:=(by omega); rfl) | (obtain rfl:i=2:=(by omega); rfl)) (oj (call Z Z (.cons Z (.cons Z .nil)) fb_11 (I3 g (zc c k i) (by omega) (by omega) htc ((zc_i hci).ok (by omega) (zc_b hcb)) (fun x hx=>by rw [zc_bx.1] at hx; have:=hcx x hx; omega) (fun x hx=>by rw [zc_bx.2] at hx; have:=hcw x hx; omega))  (fun w h=>(by obtain ⟨z1,z2,z3,z4,z5,z6⟩:=zc_f (k:=k) (i:=i) ⟨(h.2.2.1),(Cu h),(Dw h),(Ez h),(Ec h),(Fg h)⟩; exact ⟨(h.1),(h.2.1),z1,z2,z3,z4,z5,z6,(Gg h),(Io h),trivial⟩)) ?_)))))))))))))))
        rintro gy _
        try dsimp only
        refine oj (mv Z Z (oj (ext Z Z Z (oj (ext Z Z Z (oj (C7 Z zok_29 (fun r19=>(oj (C0 Z Z B4 Z Z .head (oj (Ak Z Z (on (qn (Ab (Aa (oj (mv Z Z (oj (G2 Z Z Z (on (qn (C5 Z (fun hne2=>absurd hne2 (fun h=>h (zc_220 hacc hci hk))) (fun heq2=>(Ah ?_)))))))))))))))))))))))))
        exact bn (qn (Aa (oj (add Z Z Z (by omega) (oj (mv Z Z (on (qn (Ar (i+1) (by dsimp only; omega) ((by omega)) (⟨Z,Z,Z,Z,Z,Z,tR⟩) (.cons _ (.cons _ (.refl _))) (fun w h=>⟨(h.2.1),(h.2.2.1),(Cu h),(Dw h),(Ez h),(Ec h),(Fg h),(Gg h),(Io h),(Ew h),(Fh h),(Ev h),(Jr h),tR⟩))))))))))
     ·refine A1 (qe (qe (be (qn (Ab (Aa (oj (mv Z Z (oj (A2 (o':=34) Z Z Dg Dl Z (oj (Bh Z Z Dl (.head _) (Z) (oj (Bn Z Z Tryz.underlying24 Z (oj (Eu Z Z Z (Ac (d:=154) (v:=.bool true) Z (by rw [show cnM gx.ms 512=gx.ms.length from mem_cnt hacc hr]; simp) (oj (Ak Z Z (on (qn ?_)))))))))))))))))))))
      exact Af (As () Z (.tmp Z .nil) Z tR (Bl _) (fun w h=>tR) (.inl Z))
end Go.Chx
namespace Go.Chx
open Go Go.Proofs Go.Deep Go.WideShapes
set_option maxHeartbeats 1000000
set_option maxRecDepth 4000
section
variable {H:Type} {enc:TypeId × Value→H} {w:World}
abbrev RD (enc:TypeId × Value→H) (w:World) (n:Nat) (t:TypeId) (cs:List Value) (x:DataW H × List MemPlace):Prop:=DataW.trod enc Tryz.prog w 0 (fun _=>true) true n t cs=some x
theorem list_of {α:Type} {R:Nat→α→Prop}:∀ (n:Nat),(∀ i,i < n→∃ y,R i y)→∃ l:List α,l.length=n∧∀ i y,l[i]? = some y→R i y
 | 0,_=>⟨[],rfl,fun i y h=>by simp at h⟩
 | n+1,h=>by
  obtain ⟨l,h1,h2⟩:=list_of n fun i hi=>h i (by omega)
  obtain ⟨y,hy⟩:=h n (by omega)
  refine ⟨l++[y],by simp [h1],fun i z hz=>?_⟩
  by_cases hi:i < l.length
  ·rw [List.getElem?_append_left hi] at hz; exact h2 i z hz
  ·rw [List.getElem?_append_right (by omega)] at hz
   have hi2:i-l.length=0:=by
    have:=(List.getElem?_eq_some_iff.1 hz).1
    simp at this; omega
   rw [hi2] at hz
   simp at hz
   rw [← hz,show i=n by omega]; exact hy
theorem Hp {α:Type} {f:α→List Value} {Q:α→Prop} {t e sz:Nat} (ht:Tryz.prog.underlying t=some (.slice e)) (hc:Tryz.prog.cellsOf e=sz) (h0:0 < sz) (hf:∀ y,(f y).length=sz) (ho:∀ y,(f y).all (·.oneCell')=true)
  (h1:∀ n cs x,RD enc w n e cs x→∃ y,cs=f y∧Q y) {n:Nat} {cs:List Value} {x:DataW H × List MemPlace} (h:RD enc w n t cs x) :
  ∃ (a:Option Addr) (cap:Nat) (l:List α),cs=[.slice a l.length cap]∧cap≤maxLen∧l.length≤cap∧(∀ y∈l,Q y)∧Sl sz l.length (l.flatMap f) (.slice a l.length cap) w:=by
 have hall:∀ l:List α,(l.flatMap f).all (·.oneCell')=true:=fun l=>by
  rw [List.all_eq_true]; intro v hv
  obtain ⟨y,_,hy⟩:=List.mem_flatMap.1 hv
  exact List.all_eq_true.1 (ho y) v hy
 rcases open_slice ht h with ⟨hcs,_⟩ | ⟨a,len,cap,m,n',D,Pl,hcs,_,hl,hm,hmm,_,hi⟩
 ·exact ⟨none,0,[],hcs,Nat.zero_le _,Nat.le_refl _,fun y hy=>(List.not_mem_nil hy).elim,none,0,Z,Nat.le_refl _,by simp,Z,.inl Z⟩
 ·obtain ⟨l,hlen,hl2⟩:=list_of (R:=fun i y=>w.cells? 0 (a.add (i*sz)) sz=some (f y)∧Q y) len fun i hil=>by
   have:i < m:=by rw [hmm]; simp; omega
   obtain ⟨cs',h2,h3⟩:=hi i this
   obtain ⟨y,rfl,hq⟩:=h1 _ _ _ h3
   rw [hc] at h2
   exact ⟨y,h2,hq⟩
  subst hlen
  refine ⟨some a,cap,l,hcs,hm,hl,fun y hy=>?_,some a,cap,Z,hl,Il hf l,hall l,.inr ⟨a,Z,fun j v hv=>?_⟩⟩
  ·obtain ⟨i,hi⟩:=List.mem_iff_getElem?.1 hy
   exact (hl2 i y hi).2
  ·have hj:=(List.getElem?_eq_some_iff.1 hv).1
   rw [Il hf] at hj
   have hi:j / sz < l.length:=Nat.div_lt_of_lt_mul (by rw [Nat.mul_comm]; exact hj)
   have hy:l[j / sz]? = some l[j / sz]:=List.getElem?_eq_getElem hi
   obtain ⟨_,_,hat⟩:=World.cells?_some (hl2 _ _ hy).1
   have hr:=Nat.mod_lt j h0
   have e1:=fm_elem hf hy
   have e2:(l.flatMap f)[j]? = (f l[j / sz])[j % sz]?:=by
    rw [← e1,List.getElem?_take_of_lt hr,List.getElem?_drop]
    congr 1
    have:=Nat.div_add_mod j sz
    rw [Nat.mul_comm] at this
    exact this.symm
   rw [e2,← hat _ hr,add_add] at hv
   rw [← hv]
   congr 2
   have:=Nat.div_add_mod j sz
   rw [Nat.mul_comm] at this
   exact this.symm
theorem Ej {n:Nat} {cs:List Value} {x:DataW H × List MemPlace} (h:RD enc w n 3 cs x):∃ m:Int,cs=[iv m]∧i64 m:=by
 obtain ⟨m,h1,_,h3⟩:=DataW.trod_int Tryz.underlying3 h
 exact ⟨m,h1,bounds_i64 h3⟩
theorem open_b {n:Nat} {cs:List Value} {x:DataW H × List MemPlace} (h:RD enc w n 5 cs x):∃ b:UInt8,cs=[.int .u8 (b.toNat:Int)]:=by
 obtain ⟨m,h1,_,h3⟩:=DataW.trod_int Tryz.underlying5 h
 obtain ⟨h4,h5⟩:=bounds_u8 h3
 refine ⟨UInt8.ofNat m.toNat,?_⟩
 rw [h1,UInt8.toNat_ofNat',Nat.mod_eq_of_lt (by omega),Int.toNat_of_nonneg h4]
theorem Ek:Tryz.prog.cellsOf 3=1:=by kernel_rfl
theorem cells5:Tryz.prog.cellsOf 5=1:=by kernel_rfl
theorem cells23:Tryz.prog.cellsOf 23=32:=by kernel_rfl
theorem cells29:Tryz.prog.cellsOf 29=36:=by kernel_rfl
theorem cells37:Tryz.prog.cellsOf 37=73:=by kernel_rfl
theorem cells24:Tryz.prog.cellsOf 24=1:=by kernel_rfl
theorem cells25:Tryz.prog.cellsOf 25=1:=by kernel_rfl
theorem cells27:Tryz.prog.cellsOf 27=1:=by kernel_rfl
theorem cells30:Tryz.prog.cellsOf 30=1:=by kernel_rfl
theorem cells31:Tryz.prog.cellsOf 31=1:=by kernel_rfl
theorem cells32:Tryz.prog.cellsOf 32=1:=by kernel_rfl
theorem cells33:Tryz.prog.cellsOf 33=1:=by kernel_rfl
theorem cells35:Tryz.prog.cellsOf 35=2:=by kernel_rfl
theorem cells45:Tryz.prog.cellsOf 45=3:=by kernel_rfl
theorem cells49:Tryz.prog.cellsOf 49=5:=by kernel_rfl
theorem cells91:Tryz.prog.cellsOf 91=4:=by kernel_rfl
theorem cells87:Tryz.prog.cellsOf 87=3:=by kernel_rfl
theorem open_d {n:Nat} {cs:List Value} {x:DataW H × List MemPlace} (h:RD enc w n 23 cs x):∃ d:Dig,cs=(sd d).cs:=by
 obtain ⟨xs,m,_,_,hl,hx,hi⟩:=DataW.trod_array Tryz.underlying23 h
 rw [cells23] at hl
 obtain ⟨bs,hbl,hb⟩:=list_of (R:=fun i (b:UInt8)=>cs[i]? = some (.int .u8 (b.toNat:Int))) 32 fun i hi32=>by
  have h1:=hi i hi32
  rw [cells5,Nat.mul_one] at h1
  have h2:xs[i]? = some xs[i]:=List.getElem?_eq_getElem (by omega)
  obtain ⟨b,hb⟩:=open_b (h1.trans h2)
  refine ⟨b,?_⟩
  have h3:((cs.drop i).take 1)[0]? = some (.int .u8 (b.toNat:Int)):=by rw [hb]; rfl
  rw [List.getElem?_take_of_lt (by omega),List.getElem?_drop] at h3
  simpa using h3
 refine ⟨⟨bs,hbl⟩,?_⟩
 show cs=An bs
 apply List.ext_getElem?
 intro i
 by_cases hi:i < 32
 ·have h2:bs[i]? = some bs[i]:=List.getElem?_eq_getElem (by omega)
  rw [hb i _ h2]; simp [An,h2]
 ·rw [List.getElem?_eq_none (by omega),List.getElem?_eq_none (by rw [Br]; omega)]
theorem Ca (l:List Value) (a n:Nat):l.drop a=(l.drop a).take n++l.drop (a+n):=by
 rw [← List.drop_drop,List.take_append_drop]
theorem open_bytes {n:Nat} {cs:List Value} {x:DataW H × List MemPlace} {t:Nat} (ht:Tryz.prog.underlying t=some (.slice 5)) (h:RD enc w n t cs x) :
  ∃ (a:Option Addr) (cap:Nat) (l:List UInt8),cs=[.slice a l.length cap]∧cap≤maxLen∧l.length≤cap∧Sl 1 l.length (An l) (.slice a l.length cap) w:=by
 obtain ⟨a,cap,l,h1,h2,h3,_,h5⟩:=Hp (f:=fun b:UInt8=>[.int .u8 (b.toNat:Int)]) (Q:=fun _=>True) ht cells5 (by omega) (fun _=>rfl) (fun _=>rfl) (fun n cs x h=>by obtain ⟨b,hb⟩:=open_b h; exact ⟨b,hb,trivial⟩) h
 refine ⟨a,cap,l,h1,h2,h3,?_⟩
 have this:∀ l:List UInt8,l.flatMap (fun b:UInt8=>[Value.int .u8 (b.toNat:Int)])=An l:=by
  intro l
  induction l with
  | nil=>rfl
  | cons b l ih=>rw [List.flatMap_cons,ih]; rfl
 rw [this] at h5; exact h5
theorem Hu {t:TypeId} {fs:Array Field} (ht:Tryz.prog.underlying t=some (.struct fs)) {n:Nat} {cs:List Value} {x:DataW H × List MemPlace} (h:RD enc w n t cs x) :
  cs.length=Tryz.prog.cellsOf t∧∃ n',∀ (i:Nat) (f:Field),fs[i]? = some f→∃ y,RD enc w n' f.type ((cs.drop f.offset).take (Tryz.prog.cellsOf f.type)) y:=by
 obtain ⟨xs,n',_,_,hl,hx,hi⟩:=DataW.trod_struct ht h
 refine ⟨hl,n',fun i f hf=>?_⟩
 have:=hi i f hf
 have hil:i < xs.length:=by rw [hx]; exact (Array.getElem?_eq_some_iff.1 hf).1
 exact ⟨_,this.trans (List.getElem?_eq_getElem hil)⟩
theorem cut2 (cs:List Value) (h:cs.length=2):cs=(cs.drop 0).take 1++((cs.drop 1).take 1++[]):=by
 have e:cs.drop 2=[]:=List.drop_eq_nil_of_le (by omega)
 rw [← e,← show cs.drop 1=(cs.drop 1).take 1++cs.drop 2 from Ca cs 1 1,← show cs.drop 0=(cs.drop 0).take 1++cs.drop 1 from Ca cs 0 1,List.drop_zero]
theorem cut3 (cs:List Value) (h:cs.length=3):cs=(cs.drop 0).take 1++((cs.drop 1).take 1++((cs.drop 2).take 1++[])):=by
 have e:cs.drop 3=[]:=List.drop_eq_nil_of_le (by omega)
 rw [← e,← show cs.drop 2=(cs.drop 2).take 1++cs.drop 3 from Ca cs 2 1,← show cs.drop 1=(cs.drop 1).take 1++cs.drop 2 from Ca cs 1 1,← show cs.drop 0=(cs.drop 0).take 1++cs.drop 1 from Ca cs 0 1,List.drop_zero]
theorem cut5 (cs:List Value) (h:cs.length=5):cs=(cs.drop 0).take 1++((cs.drop 1).take 1++((cs.drop 2).take 1++((cs.drop 3).take 1++((cs.drop 4).take 1++[])))):=by
 have e:cs.drop 5=[]:=List.drop_eq_nil_of_le (by omega)
 rw [← e,← show cs.drop 4=(cs.drop 4).take 1++cs.drop 5 from Ca cs 4 1,← show cs.drop 3=(cs.drop 3).take 1++cs.drop 4 from Ca cs 3 1,← show cs.drop 2=(cs.drop 2).take 1++cs.drop 3 from Ca cs 2 1,← show cs.drop 1=(cs.drop 1).take 1++cs.drop 2 from Ca cs 1 1,← show cs.drop 0=(cs.drop 0).take 1++cs.drop 1 from Ca cs 0 1,List.drop_zero]
theorem cut29 (cs:List Value) (h:cs.length=36):cs=(cs.drop 0).take 1++((cs.drop 1).take 1++((cs.drop 2).take 32++((cs.drop 34).take 1++((cs.drop 35).take 1++[])))):=by
 have e:cs.drop 36=[]:=List.drop_eq_nil_of_le (by omega)
 rw [← e,← show cs.drop 35=(cs.drop 35).take 1++cs.drop 36 from Ca cs 35 1,← show cs.drop 34=(cs.drop 34).take 1++cs.drop 35 from Ca cs 34 1,← show cs.drop 2=(cs.drop 2).take 32++cs.drop 34 from Ca cs 2 32,← show cs.drop 1=(cs.drop 1).take 1++cs.drop 2 from Ca cs 1 1,← show cs.drop 0=(cs.drop 0).take 1++cs.drop 1 from Ca cs 0 1,List.drop_zero]
theorem cut37 (cs:List Value) (h:cs.length=73):cs=(cs.drop 0).take 1++((cs.drop 1).take 1++((cs.drop 2).take 32++((cs.drop 34).take 1++((cs.drop 35).take 1++((cs.drop 36).take 1++((cs.drop 37).take 1++((cs.drop 38).take 1++((cs.drop 39).take 32++((cs.drop 71).take 2++[]))))))))):=by
 have e:cs.drop 73=[]:=List.drop_eq_nil_of_le (by omega)
 rw [← e,← show cs.drop 71=(cs.drop 71).take 2++cs.drop 73 from Ca cs 71 2,← show cs.drop 39=(cs.drop 39).take 32++cs.drop 71 from Ca cs 39 32,← show cs.drop 38=(cs.drop 38).take 1++cs.drop 39 from Ca cs 38 1,← show cs.drop 37=(cs.drop 37).take 1++cs.drop 38 from Ca cs 37 1,← show cs.drop 36=(cs.drop 36).take 1++cs.drop 37 from Ca cs 36 1,← show cs.drop 35=(cs.drop 35).take 1++cs.drop 36 from Ca cs 35 1,← show cs.drop 34=(cs.drop 34).take 1++cs.drop 35 from Ca cs 34 1,← show cs.drop 2=(cs.drop 2).take 32++cs.drop 34 from Ca cs 2 32,← show cs.drop 1=(cs.drop 1).take 1++cs.drop 2 from Ca cs 1 1,← show cs.drop 0=(cs.drop 0).take 1++cs.drop 1 from Ca cs 0 1,List.drop_zero]
theorem cut3w (cs:List Value) (h:cs.length=3):cs=(cs.drop 0).take 1++((cs.drop 1).take 2++[]):=by
 have e:cs.drop 3=[]:=List.drop_eq_nil_of_le (by omega)
 rw [← e,← show cs.drop 1=(cs.drop 1).take 2++cs.drop 3 from Ca cs 1 2,← show cs.drop 0=(cs.drop 0).take 1++cs.drop 1 from Ca cs 0 1,List.drop_zero]
theorem cut4w (cs:List Value) (h:cs.length=4):cs=(cs.drop 0).take 1++((cs.drop 1).take 1++((cs.drop 2).take 2++[])):=by
 have e:cs.drop 4=[]:=List.drop_eq_nil_of_le (by omega)
 rw [← e,← show cs.drop 2=(cs.drop 2).take 2++cs.drop 4 from Ca cs 2 2,← show cs.drop 1=(cs.drop 1).take 1++cs.drop 2 from Ca cs 1 1,← show cs.drop 0=(cs.drop 0).take 1++cs.drop 1 from Ca cs 0 1,List.drop_zero]
theorem F4 {fs:Array Field} {n:Nat} {cs:List Value} (hf:∀ (i:Nat) (f:Field),fs[i]? = some f→∃ y,RD enc w n f.type ((cs.drop f.offset).take (Tryz.prog.cellsOf f.type)) y) (i:Nat) {t o s:Nat} (f:Field) (hi:fs[i]? = some f) (h1:f.type=t) (h2:f.offset=o) (hc:Tryz.prog.cellsOf t=s) :
  ∃ y,RD enc w n t ((cs.drop o).take s) y:=by
 obtain ⟨y,hy⟩:=hf i f hi
 rw [h1,h2,hc] at hy
 exact ⟨y,hy⟩
theorem open_mb {n:Nat} {cs:List Value} {x:DataW H × List MemPlace} (h:RD enc w n 45 cs x):∃ m:Mb,cs=m.cells∧i64 m.d∧i64 m.s∧i64 m.v:=by
 obtain ⟨hl,n',hf⟩:=Hu Tryz.underlying45 h
 obtain ⟨_,h0⟩:=F4 hf 0 (t:=3) (o:=0) (s:=1) _ rfl rfl rfl Ek
 obtain ⟨v0,e0,k0⟩:=Ej h0
 obtain ⟨_,h1⟩:=F4 hf 1 (t:=3) (o:=1) (s:=1) _ rfl rfl rfl Ek
 obtain ⟨v1,e1,k1⟩:=Ej h1
 obtain ⟨_,h2⟩:=F4 hf 2 (t:=3) (o:=2) (s:=1) _ rfl rfl rfl Ek
 obtain ⟨v2,e2,k2⟩:=Ej h2
 refine ⟨⟨v0,v1,v2⟩,?_,k0,k1,k2⟩
 rw [cut3 cs (hl.trans cells45),e0,e1,e2]; rfl
theorem open_chg {n:Nat} {cs:List Value} {x:DataW H × List MemPlace} (h:RD enc w n 49 cs x):∃ m:Chg,cs=m.cells∧i64 m.k∧i64 m.d∧i64 m.p∧i64 m.v∧i64 m.c:=by
 obtain ⟨hl,n',hf⟩:=Hu Tryz.underlying49 h
 obtain ⟨_,h0⟩:=F4 hf 0 (t:=3) (o:=0) (s:=1) _ rfl rfl rfl Ek
 obtain ⟨v0,e0,k0⟩:=Ej h0
 obtain ⟨_,h1⟩:=F4 hf 1 (t:=3) (o:=1) (s:=1) _ rfl rfl rfl Ek
 obtain ⟨v1,e1,k1⟩:=Ej h1
 obtain ⟨_,h2⟩:=F4 hf 2 (t:=3) (o:=2) (s:=1) _ rfl rfl rfl Ek
 obtain ⟨v2,e2,k2⟩:=Ej h2
 obtain ⟨_,h3⟩:=F4 hf 3 (t:=3) (o:=3) (s:=1) _ rfl rfl rfl Ek
 obtain ⟨v3,e3,k3⟩:=Ej h3
 obtain ⟨_,h4⟩:=F4 hf 4 (t:=3) (o:=4) (s:=1) _ rfl rfl rfl Ek
 obtain ⟨v4,e4,k4⟩:=Ej h4
 refine ⟨⟨v0,v1,v2,v3,v4⟩,?_,k0,k1,k2,k3,k4⟩
 rw [cut5 cs (hl.trans cells49),e0,e1,e2,e3,e4]; rfl
theorem cells234:Tryz.prog.cellsOf 234=2:=by kernel_rfl
theorem open_nd {n:Nat} {cs:List Value} {x:DataW H × List MemPlace} (h:RD enc w n 234 cs x):∃ q:Int × Int,cs=ndc q:=by
 obtain ⟨hl,n',hf⟩:=Hu Tryz.underlying234 h
 obtain ⟨_,h0⟩:=F4 hf 0 (t:=3) (o:=0) (s:=1) _ rfl rfl rfl Ek
 obtain ⟨v0,e0,k0⟩:=Ej h0
 obtain ⟨_,h1⟩:=F4 hf 1 (t:=3) (o:=1) (s:=1) _ rfl rfl rfl Ek
 obtain ⟨v1,e1,k1⟩:=Ej h1
 refine ⟨(v0,v1),?_⟩
 rw [cut2 cs (hl.trans cells234),e0,e1]; rfl
theorem cells53:Tryz.prog.cellsOf 53=1:=by kernel_rfl
theorem cells85:Tryz.prog.cellsOf 85=2:=by kernel_rfl
theorem open_wrap {n:Nat} {cs:List Value} {x:DataW H × List MemPlace} (h:RD enc w n 85 cs x):∃ (u:Int) (b:List UInt8) (a:Option Addr) (c:Nat),cs=[iv u,.slice a b.length c]∧i64 u∧Sl 1 b.length (An b) (.slice a b.length c) w:=by
 obtain ⟨hl,n',hf⟩:=Hu Tryz.underlying85 h
 obtain ⟨_,h0⟩:=F4 hf 0 (t:=3) (o:=0) (s:=1) _ rfl rfl rfl Ek
 obtain ⟨v0,e0,k0⟩:=Ej h0
 obtain ⟨_,h1⟩:=F4 hf 1 (t:=53) (o:=1) (s:=1) _ rfl rfl rfl cells53
 obtain ⟨a1,c1,l1,e1,hm1,hc1,s1⟩:=open_bytes Tryz.underlying53 h1
 refine ⟨v0,l1,a1,c1,?_,k0,s1⟩
 rw [cut2 cs (hl.trans cells85),e0,e1]; rfl
theorem open_bx {n:Nat} {cs:List Value} {x:DataW H × List MemPlace} (h:RD enc w n 91 cs x):∃ m:Bxx,cs=m.cells∧(i64 m.n∧i64 m.lv∧i64 m.u)∧Sl 1 m.b.length (An m.b) (.slice m.a m.b.length m.c) w:=by
 obtain ⟨hl,n',hf⟩:=Hu Tryz.underlying91 h
 obtain ⟨_,h0⟩:=F4 hf 0 (t:=3) (o:=0) (s:=1) _ rfl rfl rfl Ek
 obtain ⟨v0,e0,k0⟩:=Ej h0
 obtain ⟨_,h1⟩:=F4 hf 1 (t:=3) (o:=1) (s:=1) _ rfl rfl rfl Ek
 obtain ⟨v1,e1,k1⟩:=Ej h1
 obtain ⟨_,h2⟩:=F4 hf 2 (t:=85) (o:=2) (s:=2) _ rfl rfl rfl cells85
 obtain ⟨u,b,a,c,e2,ku,hb⟩:=open_wrap h2
 refine ⟨⟨v0,v1,u,b,a,c⟩,?_,⟨k0,k1,ku⟩,hb⟩
 rw [cut4w cs (hl.trans cells91),e0,e1,e2]; rfl
theorem open_wl {n:Nat} {cs:List Value} {x:DataW H × List MemPlace} (h:RD enc w n 87 cs x):∃ m:Wlc,cs=m.cells∧(i64 m.d∧i64 m.u)∧Sl 1 m.b.length (An m.b) (.slice m.a m.b.length m.c) w:=by
 obtain ⟨hl,n',hf⟩:=Hu Tryz.underlying87 h
 obtain ⟨_,h0⟩:=F4 hf 0 (t:=3) (o:=0) (s:=1) _ rfl rfl rfl Ek
 obtain ⟨v0,e0,k0⟩:=Ej h0
 obtain ⟨_,h1⟩:=F4 hf 1 (t:=85) (o:=1) (s:=2) _ rfl rfl rfl cells85
 obtain ⟨u,b,a,c,e1,ku,hb⟩:=open_wrap h1
 refine ⟨⟨v0,u,b,a,c⟩,?_,⟨k0,ku⟩,hb⟩
 rw [cut3w cs (hl.trans cells87),e0,e1]; rfl
theorem open_sig {n:Nat} {cs:List Value} {x:DataW H × List MemPlace} (h:RD enc w n 35 cs x):∃ r s:Int,cs=(sgS r s).cs∧i64 r∧i64 s:=by
 obtain ⟨hl,n',hf⟩:=Hu Tryz.underlying35 h
 obtain ⟨_,h0⟩:=F4 hf 0 (t:=3) (o:=0) (s:=1) _ rfl rfl rfl Ek
 obtain ⟨v0,e0,k0⟩:=Ej h0
 obtain ⟨_,h1⟩:=F4 hf 1 (t:=3) (o:=1) (s:=1) _ rfl rfl rfl Ek
 obtain ⟨v1,e1,k1⟩:=Ej h1
 refine ⟨v0,v1,?_,k0,k1⟩
 rw [cut2 cs (hl.trans cells35),e0,e1]; rfl
theorem open_tree {n:Nat} {cs:List Value} {x:DataW H × List MemPlace} (h:RD enc w n 27 cs x):∃ t:Tr,cs=[.slice t.a t.l.length t.c]∧t.c≤maxLen∧t.l.length≤t.c∧t.F w:=by
 obtain ⟨hl,n',hf⟩:=Hu Tryz.underlying27 h
 obtain ⟨_,h0⟩:=F4 hf 0 (t:=25) (o:=0) (s:=1) _ rfl rfl rfl cells25
 obtain ⟨a,cap,l,e0,hm,hc,_,hs⟩:=Hp (f:=ndc) (Q:=fun _=>True) Tryz.underlying25 cells234 (by omega) (fun _=>rfl) (fun _=>rfl) (fun n cs x h=>by obtain ⟨q,hq⟩:=open_nd h; exact ⟨q,hq,trivial⟩) h0
 refine ⟨⟨l,a,cap⟩,?_,hm,hc,hs⟩
 have h1:cs.drop 0=cs:=rfl
 rw [h1,List.take_of_length_le (by rw [hl,cells27]; omega)] at e0
 exact e0
theorem open_group {n:Nat} {cs:List Value} {x:DataW H × List MemPlace} (h:RD enc w n 29 cs x):∃ g:Gp,cs=flat g.segs∧(i64 g.folder∧i64 g.epoch)∧g.ms.length≤maxLen∧g.tr.l.length≤g.tr.c∧GF1 g w∧g.tr.F w:=by
 obtain ⟨hl,n',hf⟩:=Hu Tryz.underlying29 h
 obtain ⟨_,h0⟩:=F4 hf 0 (t:=3) (o:=0) (s:=1) _ rfl rfl rfl Ek
 obtain ⟨_,h1⟩:=F4 hf 1 (t:=3) (o:=1) (s:=1) _ rfl rfl rfl Ek
 obtain ⟨_,h2⟩:=F4 hf 2 (t:=23) (o:=2) (s:=32) _ rfl rfl rfl cells23
 obtain ⟨_,h3⟩:=F4 hf 3 (t:=24) (o:=34) (s:=1) _ rfl rfl rfl cells24
 obtain ⟨_,h4⟩:=F4 hf 4 (t:=27) (o:=35) (s:=1) _ rfl rfl rfl cells27
 obtain ⟨v0,e0,k0⟩:=Ej h0
 obtain ⟨v1,e1,k1⟩:=Ej h1
 obtain ⟨d,e2⟩:=open_d h2
 obtain ⟨a,cap,l,e3,hm,hc,_,hs⟩:=Hp (f:=Mb.cells) (Q:=fun _=>True) Tryz.underlying24 cells45 (by omega) (fun _=>rfl) (fun _=>rfl) (fun n cs x h=>by obtain ⟨q,hq,_⟩:=open_mb h; exact ⟨q,hq,trivial⟩) h3
 obtain ⟨t,e4,ht1,ht2,ht3⟩:=open_tree h4
 refine ⟨⟨v0,v1,d,l,a,cap,t⟩,?_,⟨k0,k1⟩,Nat.le_trans hc hm,ht2,hs,ht3⟩
 rw [cut29 cs (hl.trans cells29),e0,e1,e2,e3,e4]; rfl
theorem open_commit {n:Nat} {cs:List Value} {x:DataW H × List MemPlace} (h:RD enc w n 37 cs x):∃ c:Cm,cs=flat c.segs∧c.bx.length≤maxLen∧c.wl.length≤maxLen∧(∀ B,(∀ b∈c.bx,b.b.length≤B)→(∀ b∈c.wl,b.b.length≤B)→CmI c B)∧CF1 c w∧CF2 c w∧CF3 c w∧CF4 c w∧CF5 c w∧CF6 c w:=by
 obtain ⟨hl,n',hf⟩:=Hu Tryz.underlying37 h
 obtain ⟨_,h0⟩:=F4 hf 0 (t:=3) (o:=0) (s:=1) _ rfl rfl rfl Ek
 obtain ⟨_,h1⟩:=F4 hf 1 (t:=3) (o:=1) (s:=1) _ rfl rfl rfl Ek
 obtain ⟨_,h2⟩:=F4 hf 2 (t:=23) (o:=2) (s:=32) _ rfl rfl rfl cells23
 obtain ⟨_,h3⟩:=F4 hf 3 (t:=3) (o:=34) (s:=1) _ rfl rfl rfl Ek
 obtain ⟨_,h4⟩:=F4 hf 4 (t:=30) (o:=35) (s:=1) _ rfl rfl rfl cells30
 obtain ⟨_,h5⟩:=F4 hf 5 (t:=31) (o:=36) (s:=1) _ rfl rfl rfl cells31
 obtain ⟨_,h6⟩:=F4 hf 6 (t:=32) (o:=37) (s:=1) _ rfl rfl rfl cells32
 obtain ⟨_,h7⟩:=F4 hf 7 (t:=33) (o:=38) (s:=1) _ rfl rfl rfl cells33
 obtain ⟨_,h8⟩:=F4 hf 8 (t:=23) (o:=39) (s:=32) _ rfl rfl rfl cells23
 obtain ⟨_,h9⟩:=F4 hf 9 (t:=35) (o:=71) (s:=2) _ rfl rfl rfl cells35
 obtain ⟨v0,e0,k0⟩:=Ej h0
 obtain ⟨v1,e1,k1⟩:=Ej h1
 obtain ⟨d2,e2⟩:=open_d h2
 obtain ⟨v3,e3,k3⟩:=Ej h3
 obtain ⟨a4,c4,l4,e4,m4,q4,p4,s4⟩:=Hp (f:=Chg.cells) (Q:=fun m=>i64 m.k∧i64 m.d∧i64 m.p∧i64 m.v∧i64 m.c) Tryz.underlying30 cells49 (by omega) (fun _=>rfl) (fun _=>rfl) (fun n cs x h=>open_chg h) h4
 obtain ⟨a5,c5,l5,e5,m5,q5,p5,s5⟩:=Hp (f:=fun x:Int=>[iv x]) (Q:=fun m=>i64 m) Tryz.underlying31 Ek (by omega) (fun _=>rfl) (fun _=>rfl) (fun n cs x h=>Ej h) h5
 obtain ⟨a6,c6,l6,e6,m6,q6,p6,s6⟩:=Hp (f:=Bxx.cells) (Q:=fun m=>(i64 m.n∧i64 m.lv∧i64 m.u)∧Sl 1 m.b.length (An m.b) (.slice m.a m.b.length m.c) w) Tryz.underlying32 cells91 (by omega) (fun _=>rfl) (fun _=>rfl) (fun n cs x h=>open_bx h) h6
 obtain ⟨a7,c7,l7,e7,m7,q7,p7,s7⟩:=Hp (f:=Wlc.cells) (Q:=fun m=>(i64 m.d∧i64 m.u)∧Sl 1 m.b.length (An m.b) (.slice m.a m.b.length m.c) w) Tryz.underlying33 cells87 (by omega) (fun _=>rfl) (fun _=>rfl) (fun n cs x h=>open_wl h) h7
 obtain ⟨d8,e8⟩:=open_d h8
 obtain ⟨r,s,e9,k9,k10⟩:=open_sig h9
 refine ⟨⟨v0,v1,v3,r,s,d2,d8,l4,l5,l6,l7,a4,a5,a6,a7,c4,c5,c6,c7⟩,?_,Nat.le_trans q6 m6,Nat.le_trans q7 m7,fun B hb hw=>⟨k0,k1,k3,k9,k10,p4,p5,fun b hb'=>⟨(p6 b hb').1.1,(p6 b hb').1.2.1,(p6 b hb').1.2.2,hb b hb'⟩,fun b hb'=>⟨(p7 b hb').1.1,(p7 b hb').1.2,hw b hb'⟩⟩,s4,s5,s6,fun b hb=>(p6 b hb).2,s7,fun b hb=>(p7 b hb).2⟩
 rw [cut37 cs (hl.trans cells37),e0,e1,e2,e3,e4,e5,e6,e7,e8,e9]; rfl
end
end Go.Chx
