/- Part of the proof that the law CommitsMembers holds. -/
import Derived.Test.YtegbaopejhpnkaaGreatDoorAa
import Derived.Test.YtegbaopejhpnkaaGreatDoorAh
import Derived.Test.YtegbaopejhpnkaaGreatDoorAi
namespace Go.Chx
open Go Go.Proofs
set_option maxHeartbeats 1000000
set_option maxRecDepth 4000
def D1:List Int:=[1116352408,1899447441,3049323471,3921009573,961987163,1508970993,2453635748,2870763221,3624381080,310598401,607225278,1426881987,1925078388,2162078206,2614888103,3248222580,3835390401,4022224774,264347078,604807628,770255983,1249150122,1555081692,1996064986,2554220882,2821834349,2952996808,3210313671,3336571891,3584528711,113926993,338241895,666307205,773529912,1294757372,1396182291,1695183700,1986661051,2177026350,2456956037,2730485921,2820302411,3259730800,3345764771,3516065817,3600352804,4094571909,275423344,430227734,506948616,659060556,883997877,958139571,1322822218,1537002063,1747873779,1955562222,2024104815,2227730452,2361852424,2428436474,2756734187,3204031479,3329325298]
def B9:List Int:=[1779033703,3144134277,1013904242,2773480762,1359893119,2600822924,528734635,1541459225]
theorem kNum_len:D1.length=64:=rfl
theorem kStart_len:B9.length=8:=rfl
theorem Bp {xs:List Int} {i:Nat} (h:i < xs.length):xs[i]? = some (xs.getD i 0):=by
 rw [List.getD_eq_getElem?_getD,List.getElem?_eq_getElem h]; rfl
def wA (bs:List UInt8):Nat→List Int
 | 0=>List.replicate 64 0
 | i+1=>(wA bs i).set i (be32 ((bs.drop (4*i)).take 4))
theorem wA_len (bs:List UInt8):∀ i,(wA bs i).length=64
 | 0=>by simp [wA]
 | i+1=>by rw [wA,List.length_set,wA_len bs i]
def wNext (ws:List Int) (i:Nat):Int :=
 IntKind.u32.wrap (IntKind.u32.wrap (IntKind.u32.wrap (ws.getD (i-16) 0+bits .xor .u32 (bits .xor .u32 (rotl (ws.getD (i-15) 0) (-7)) (rotl (ws.getD (i-15) 0) (-18))) (ws.getD (i-15) 0 / 2 ^ (3:Int).toNat))+ws.getD (i-7) 0)
  + bits .xor .u32 (bits .xor .u32 (rotl (ws.getD (i-2) 0) (-17)) (rotl (ws.getD (i-2) 0) (-19))) (ws.getD (i-2) 0 / 2 ^ (10:Int).toNat))
def wx (bs:List UInt8):Nat→List Int
 | 0=>wA bs 16
 | j+1=>(wx bs j).set (16+j) (wNext (wx bs j) (16+j))
theorem wx_len (bs:List UInt8):∀ i,(wx bs i).length=64
 | 0=>wA_len bs 16
 | i+1=>by rw [wx,List.length_set,wx_len bs i]
def rP (ws v:List Int) (i:Nat):Int :=
 IntKind.u32.wrap (IntKind.u32.wrap (IntKind.u32.wrap (IntKind.u32.wrap (v.getD 7 0+rot3 (v.getD 4 0) 6 11 25)+bits .xor .u32 (v.getD 6 0) (bits .and .u32 (v.getD 4 0) (bits .xor .u32 (v.getD 5 0) (v.getD 6 0))))+D1.getD i 0)+ws.getD i 0)
def rQ (v:List Int):Int :=
 IntKind.u32.wrap (rot3 (v.getD 0 0) 2 13 22+bits .or .u32 (bits .and .u32 (v.getD 0 0) (v.getD 1 0)) (bits .and .u32 (v.getD 2 0) (bits .or .u32 (v.getD 0 0) (v.getD 1 0))))
def shift (v:List Int):List Int:=v.take 1++v.take 7
def vRound (ws v:List Int) (i:Nat):List Int :=
 ((shift v).set 4 (IntKind.u32.wrap ((shift v).getD 4 0+rP ws v i))).set 0 (IntKind.u32.wrap (rP ws v i+rQ v))
theorem shift_len {v:List Int} (h:v.length=8):(shift v).length=8:=by simp [shift,h]
def vs (ws st:List Int):Nat→List Int
 | 0=>st
 | i+1=>vRound ws (vs ws st i) i
theorem vs_len (ws:List Int) {st:List Int} (h:st.length=8):∀ i,(vs ws st i).length=8
 | 0=>h
 | i+1=>by rw [vs,vRound,List.length_set,List.length_set,shift_len (vs_len ws h i)]
def sOut (st v:List Int):Nat→List Int
 | 0=>st
 | i+1=>(sOut st v i).set i (IntKind.u32.wrap ((sOut st v i).getD i 0+v.getD i 0))
theorem sOut_len {st:List Int} (v:List Int) (h:st.length=8):∀ i,(sOut st v i).length=8
 | 0=>h
 | i+1=>by rw [sOut,List.length_set,sOut_len v h i]
def absb (st:List Int) (bs:List UInt8):List Int:=sOut st (vs (wx bs 48) st 64) 8
theorem absb_len {st:List Int} (bs:List UInt8) (h:st.length=8):(absb st bs).length=8:=sOut_len _ h 8
theorem bcells_drop (bs:List UInt8) (k:Nat):(An bs).drop k=An (bs.drop k):=by simp [An]
theorem bcells_take (bs:List UInt8) (k:Nat):(An bs).take k=An (bs.take k):=by simp [An]
theorem Sl.from {n cap k:Nat} {a:Option Addr} {bs:List UInt8} {w:World} (h:Sl 1 n (An bs) (.slice a n cap) w) (hb:bs.length=n) (hk:k≤n) (hc:n≤cap) :
  Sl 1 (n-k) (An (bs.drop k)) (.slice (if cap=k then a else a.map (·.add (k*1))) (n-k) (cap-k)) w:=by
 have:=h.part hk (Nat.le_refl n) hc
 rw [Nat.mul_one,Nat.mul_one,bcells_drop,bcells_take,List.take_of_length_le (by rw [List.length_drop]; omega)] at this
 simpa using this
theorem own_take {w:World} {r n m:Nat} {k:IntKind} {xs:List Int} {h:xs.length=n} {te:TypeId} (ho:w.heap[r]? = some (.cells (flat [Gi k n xs h]).toArray te (0,0))):At w (some ⟨r,0,none⟩) (Av k (xs.take m)):=by
 refine Bc.at (r:=r) (te:=te) (segs:=[Gi k n xs h]) ho fun j u hu=>?_
 rw [Ib,Nat.zero_add]
 simp only [Gi,Av,List.map_take] at hu ⊢
 rw [List.getElem?_take] at hu
 split at hu
 ·exact hu
 ·cases hu
theorem shift_flat {v:List Int} {n:Nat} (hn:n=8) (h:v.length=n) (h':(shift v).length=n):flat [Gi .u32 n (shift v) h']=(flat [Gi .u32 n v h]).take 1++Av .u32 (v.take 7)++(flat [Gi .u32 n v h]).drop (1+7*1):=by
 simp only [Ib,Gi,Av,shift,List.map_append,List.map_take]
 rw [List.drop_of_length_le (by simp [h]; omega)]
 simp
theorem absorb_spec (r n cap:Nat) (a:Option Addr) (st:List Int) (hst:st.length=8) (bs:List UInt8) (hb:bs.length=n) (hn:64≤n) (hcap:n≤cap):Ay Tryz.prog 222 [Bg r 0,.slice a n cap] [bx r [Gi .u32 8 st hst] 293] (fun w=>Sl 1 n (An bs) (.slice a n cap) w∧De 3 (Av .u32 D1) w∧True) (fun _:Unit=>⟨True,.tuple #[],[bx r [Gi .u32 8 (absb st bs) (absb_len bs hst)] 293],fun _=>True⟩):=by
 refine Aj Tryz.func222 Z Z fun X w0=>(Ab (Aa (oj (C7 Z zok_321 (fun r4=>(on (qn (Ab (Ab (Aa (oj (mv Z Z (on (qn (Ag (Aw (fun (sT:(Nat))=>(⟨sT≤16,[(0,Bg r 0),(1,.slice a n cap),(4,Bg r4 0),(14,.int .i64 (sT:Int))],[bx r4 [Gi .u32 64 (wA bs sT) (wA_len bs sT)] 321,bx r [Gi .u32 8 st hst] 293],fun w=>Sl 1 n (An bs) (.slice a n cap) w∧De 3 (Av .u32 D1) w∧True,16-sT⟩:Hd)) (0) (by dsimp only; omega) (⟨Z,Z,Z,Z,tR⟩) (.refl _) (fun w h=>⟨(h.1),(h.2.1),tR⟩) ?_))))))))))))))))
 rintro i hi
 try dsimp only
 refine Ab (Aa (oj (Dd Z Z Z (on (qn (Ab ?_))))))
 refine A8 Z (fun ht=>?_) (fun hf=>?_)
 ·refine Ah (qn (Ab (Ag (Ab (Aa (oj (mv Z Z (oj (Ak Z Z (on (qn (Aa (oj (mv Z Z (oj (mv Z Z (oj (mv Z Z (oj (mul Z Z Z (by omega) (oj (slc (l':=4*i) Z Z Tryz.underlying53 Bv Z Z (.inl Z) ⟨_,(show Bw _ _=some (.int .i64 ((4*i:Nat):Int)) from congrArg some (congrArg (Value.int .i64) (by omega))),by omega⟩ ?_))))))))))))))))))))))
  exact oj (Ao Z Z (.cons Z .nil) fb_258 (word_spec (bs.drop (4*i)) _ _ _ (by omega) (by rw [List.length_drop]; omega) (by omega))  (fun w h=>⟨Sl.from (h.1) hb (by omega) hcap,tR⟩) Z (fun _=>(Ae (fun w h=>h.2) (oj (Gj (n':=i) Z Z Z Tryz.underlying321 Az (by omega) (by simp) (oj (stX ([Gi .u32 64 (wA bs (i+1)) (wA_len bs (i+1))]) Z Z Az Z .head (by rw [En]; omega) (Ey _ _) (on (bn (qn (Aa (oj (add Z Z Z (by omega) (oj (mv Z Z (on (qn (Ar (i+1) (by dsimp only; omega) (by dsimp only; omega) (⟨Z,Z,Z,Z,tR⟩) (.refl _) (fun w h=>⟨(h.1),(h.2.1),tR⟩)))))))))))))))))))
 ·have h4:i=16:=by omega
  subst h4
  refine A1 (qe (qe (be (qn (Ab (Ab (Aa (oj (Ak Z Z (on (qn (Ag (Aw (fun (sT:(Nat))=>(⟨sT≤48,[(0,Bg r 0),(4,Bg r4 0),(6,.int .i64 ((16+sT:Nat):Int))],[bx r4 [Gi .u32 64 (wx bs sT) (wx_len bs sT)] 321,bx r [Gi .u32 8 st hst] 293],fun w=>De 3 (Av .u32 D1) w∧True,48-sT⟩:Hd)) (0) (by dsimp only; omega) (⟨Z,Z,Z,tR⟩) (.refl _) (fun w h=>⟨(h.2.1),tR⟩) ?_)))))))))))))
  rintro j hi
  try dsimp only
  have hlen:=wx_len bs j
  refine Ab (Ab (Aa (oj (mv Z Z (oj (Dd Z Z Z (on (qn ?_))))))))
  refine A8 Z (fun ht=>?_) (fun hf=>?_)
  ·refine Ah (qn (Ab (Ag (Ab (A5 mo (kj_del [7] (A3 [0,1,2,3,4,5,6,7,8] (fun _=>false) (by kernel_rfl) Z Z (.det _ (fun Q K R m k=>(mv Z Z k)) (.det _ (fun Q K R m k=>(sub Z Z Z (by omega) k)) (.det _ (fun Q K R m k=>(Gj (n':=16+j-15) Z Z Z Tryz.underlying321 Az (by omega) (by omega) k)) (.det _ (fun Q K R m k=>(Bh Z Z Az (.head _) (B6 _ (Bp (by omega))) k)) (.det _ (fun Q K R m k=>(mv Z Z k)) (.det _ (fun Q K R m k=>(sub Z Z Z (by omega) k)) (.det _ (fun Q K R m k=>(Gj (n':=16+j-2) Z Z Z Tryz.underlying321 Az (by omega) (by omega) k)) (.det _ (fun Q K R m k=>(Bh Z Z Az (.head _) (B6 _ (Bp (by omega))) k)) ?_)))))))))))))))
   refine .det _ (fun Q K R m k=>(Ak Z Z k)) (.nil (Ad 9 ((Ak Z Z (A6 (qn (A5 mo (A3 [0,1,2,3,4,5,6,7,8,9,10,11,12,13,14,15,16,17,18,19,20,21,22,23,24,25,26,27] (fun _=>false) (by kernel_rfl) Z Z (.det _ (fun Q K R m k=>(mv Z Z k)) (.det _ (fun Q K R m k=>(mv Z Z k)) (.det _ (fun Q K R m k=>(sub Z Z Z (by omega) k)) (.det _ (fun Q K R m k=>(Gj (n':=16+j-16) Z Z Z Tryz.underlying321 Az (by omega) (by omega) k)) (.det _ (fun Q K R m k=>(Bh Z Z Az (.head _) (B6 _ (Bp (by omega))) k)) (.det _ (fun Q K R m k=>(mv Z Z k)) (.det _ (fun Q K R m k=>(Ao Z Z (.cons Z (.cons Z .nil)) Jl (E3 _ _ (by unfold Hm; decide))  (fun w h=>tR) Z (fun _=>Ae (fun w h=>h.2) k))) (.det _ (fun Q K R m k=>(mv Z Z k)) ?_))))))))))))))))
   refine .det _ (fun Q K R m k=>(Ao Z Z (.cons Z (.cons Z .nil)) Jl (E3 _ _ (by unfold Hm; decide))  (fun w h=>tR) Z (fun _=>Ae (fun w h=>h.2) k))) (.det _ (fun Q K R m k=>(bxor Z Z Z k)) (.det _ (fun Q K R m k=>(mv Z Z k)) (.det _ (fun Q K R m k=>(shr Z Z Z (by decide) k)) (.det _ (fun Q K R m k=>(bxor Z Z Z k)) (.det _ (fun Q K R m k=>(Id Z Z Z k)) (.det _ (fun Q K R m k=>(mv Z Z k)) (.det _ (fun Q K R m k=>(sub Z Z Z (by omega) k)) (.det _ (fun Q K R m k=>(Gj (n':=16+j-7) Z Z Z Tryz.underlying321 Az (by omega) (by omega) k)) (.det _ (fun Q K R m k=>(Bh Z Z Az (.head _) (B6 _ (Bp (by omega))) k)) (.det _ (fun Q K R m k=>(Id Z Z Z k)) (.det _ (fun Q K R m k=>(mv Z Z k)) (.det _ (fun Q K R m k=>(Ao Z Z (.cons Z (.cons Z .nil)) Jl (E3 _ _ (by unfold Hm; decide))  (fun w h=>tR) Z (fun _=>Ae (fun w h=>h.2) k))) (.det _ (fun Q K R m k=>(mv Z Z k)) (.det _ (fun Q K R m k=>(Ao Z Z (.cons Z (.cons Z .nil)) Jl (E3 _ _ (by unfold Hm; decide))  (fun w h=>tR) Z (fun _=>Ae (fun w h=>h.2) k))) (.det _ (fun Q K R m k=>(bxor Z Z Z k)) ?_)))))))))))))))
   refine .det _ (fun Q K R m k=>(mv Z Z k)) (.det _ (fun Q K R m k=>(shr Z Z Z (by decide) k)) (.det _ (fun Q K R m k=>(bxor Z Z Z k)) (.det _ (fun Q K R m k=>(Id Z Z Z k)) (.nil (Ad 28 ((Gj (n':=16+j) Z Z Z Tryz.underlying321 Az (by omega) (by omega) (Ad 29 ((stX ([Gi .u32 64 (wx bs (j+1)) (wx_len bs (j+1))]) Z Z Az Z .head (by rw [En]; omega) (Ey _ _) (A6 (bn (qn (Aa (oj (mv Z Z (oj (add Z Z Z (by omega) (oj (Ak Z Z ?_))))))))))))))))))))
   exact on (qn (Ar (j+1) (by dsimp only; omega) (by dsimp only; omega) (⟨Z,Z,Z,tR⟩) (.refl _) (fun w h=>⟨(h.1),tR⟩)))
  ·have h4:j=48:=by omega
   subst h4
   refine A1 (qe (qe (be (qn (Ab (Aa (oj (mv Z Z (oj (Cq Z Z (oj (Js Z Z ty_293 (.tail _ (.head _)) Z Z (oj (C7 Z zok_293 (fun r9=>(oj (Cf Z Z ty_293 Z .head (.head Z) Z (on (qn (Ab (Ab ?_)))))))))))))))))))))
   refine Aa (oj (mv Z Z (on (qn (Ag (Aw (fun (sT:(Nat))=>(⟨sT≤64,[(0,Bg r 0),(4,Bg r4 0),(9,Bg r9 0),(69,.int .i64 (sT:Int))],[bx r9 [Gi .u32 8 (vs (wx bs 48) st sT) (vs_len _ hst sT)] 293,bx r4 [Gi .u32 64 (wx bs 48) (wx_len bs 48)] 321,bx r [Gi .u32 8 st hst] 293],fun w=>De 3 (Av .u32 D1) w∧True,64-sT⟩:Hd)) (0) (by dsimp only; omega) (⟨Z,Z,Z,Z,tR⟩) (.refl _) (fun w h=>⟨(h.1),tR⟩) ?_))))))
   rintro i hi
   try dsimp only
   have hlen:=vs_len (wx bs 48) hst i
   have hwl:=wx_len bs 48
   have hkl:=kNum_len
   refine Ab (Aa (oj (Dd Z Z Z (on (qn (Ab ?_))))))
   refine A8 Z (fun ht=>?_) (fun hf=>?_)
   ·refine Ah (qn (Ab (Ag (Ab (Aa (oj (mv Z Z (oj (Ak Z Z (on (qn (Ab (A5 mo (A3 [0,1,2,3,4,5,6,7,8,9,10,11,12,13,14,15,16,17,18,19,20,21,22,23,24] (fun _=>false) (by kernel_rfl) Z Z (.det _ (fun Q K R m k=>(Gj (n':=7) Z Z Z Tryz.underlying293 Az (by decide) Z k)) (.det _ (fun Q K R m k=>(Bh Z Z Az (.head _) (B6 _ (Bp (by omega))) k)) (.det _ (fun Q K R m k=>(Gj (n':=4) Z Z Z Tryz.underlying293 Az (by decide) Z k)) ?_)))))))))))))))))
    refine .det _ (fun Q K R m k=>(Bh Z Z Az (.head _) (B6 _ (Bp (by omega))) k)) (.det _ (fun Q K R m k=>(Ao Z Z (.cons Z (.cons Z (.cons Z (.cons Z .nil)))) fb_260 (rotated_spec _ 6 11 25 (by unfold Hm; decide) (by unfold Hm; decide) (by unfold Hm; decide))  (fun w h=>tR) Z (fun _=>Ae (fun w h=>h.2) k))) (.det _ (fun Q K R m k=>(Id Z Z Z k)) (.det _ (fun Q K R m k=>(Gj (n':=6) Z Z Z Tryz.underlying293 Az (by decide) Z k)) (.det _ (fun Q K R m k=>(Bh Z Z Az (.head _) (B6 _ (Bp (by omega))) k)) (.det _ (fun Q K R m k=>(Gj (n':=4) Z Z Z Tryz.underlying293 Az (by decide) Z k)) (.det _ (fun Q K R m k=>(Bh Z Z Az (.head _) (B6 _ (Bp (by omega))) k)) (.det _ (fun Q K R m k=>(Gj (n':=5) Z Z Z Tryz.underlying293 Az (by decide) Z k)) (.det _ (fun Q K R m k=>(Bh Z Z Az (.head _) (B6 _ (Bp (by omega))) k)) (.det _ (fun Q K R m k=>(Gj (n':=6) Z Z Z Tryz.underlying293 Az (by decide) Z k)) (.det _ (fun Q K R m k=>(Bh Z Z Az (.head _) (B6 _ (Bp (by omega))) k)) (.det _ (fun Q K R m k=>(bxor Z Z Z k)) (.det _ (fun Q K R m k=>(band Z Z Z k)) (.det _ (fun Q K R m k=>(bxor Z Z Z k)) (.det _ (fun Q K R m k=>(Id Z Z Z k)) (.det _ (fun Q K R m k=>(mv Z Z k)) ?_)))))))))))))))
    refine .det _ (fun Q K R m k=>(iaO Z Z Z Tryz.underlying321 Az (by omega) k)) (.det _ (fun Q K R m k=>(A4 Z Z Az (fun w h=>De.elem (h.1.1) (icells_get (Bp (by omega)))) k)) (.det _ (fun Q K R m k=>(Id Z Z Z k)) (.det _ (fun Q K R m k=>(mv Z Z k)) (.det _ (fun Q K R m k=>(Gj (n':=i) Z Z Z Tryz.underlying321 Az (by omega) (by simp) k)) (.det _ (fun Q K R m k=>(Bh Z Z Az (.tail _ (.head _)) (B6 _ (Bp (by omega))) k)) (.nil (Ad 25 ((Id Z Z Z (Ad 26 ((Ak Z Z (A6 (qn (Ab (A5 mo (A3 [0,1,2,3,4,5,6,7,8,9,10,11,12,13,14,15,16] (fun _=>false) (by kernel_rfl) Z Z ?_)))))))))))))))))
    refine .det _ (fun Q K R m k=>(Gj (n':=0) Z Z Z Tryz.underlying293 Az (by decide) Z k)) (.det _ (fun Q K R m k=>(Bh Z Z Az (.head _) (B6 _ (Bp (by omega))) k)) (.det _ (fun Q K R m k=>(Ao Z Z (.cons Z (.cons Z (.cons Z (.cons Z .nil)))) fb_260 (rotated_spec _ 2 13 22 (by unfold Hm; decide) (by unfold Hm; decide) (by unfold Hm; decide))  (fun w h=>tR) Z (fun _=>Ae (fun w h=>h.2) k))) (.det _ (fun Q K R m k=>(Gj (n':=0) Z Z Z Tryz.underlying293 Az (by decide) Z k)) (.det _ (fun Q K R m k=>(Bh Z Z Az (.head _) (B6 _ (Bp (by omega))) k)) (.det _ (fun Q K R m k=>(Gj (n':=1) Z Z Z Tryz.underlying293 Az (by decide) Z k)) (.det _ (fun Q K R m k=>(Bh Z Z Az (.head _) (B6 _ (Bp (by omega))) k)) (.det _ (fun Q K R m k=>(band Z Z Z k)) (.det _ (fun Q K R m k=>(Gj (n':=2) Z Z Z Tryz.underlying293 Az (by decide) Z k)) (.det _ (fun Q K R m k=>(Bh Z Z Az (.head _) (B6 _ (Bp (by omega))) k)) (.det _ (fun Q K R m k=>(Gj (n':=0) Z Z Z Tryz.underlying293 Az (by decide) Z k)) (.det _ (fun Q K R m k=>(Bh Z Z Az (.head _) (B6 _ (Bp (by omega))) k)) (.det _ (fun Q K R m k=>(Gj (n':=1) Z Z Z Tryz.underlying293 Az (by decide) Z k)) (.det _ (fun Q K R m k=>(Bh Z Z Az (.head _) (B6 _ (Bp (by omega))) k)) (.det _ (fun Q K R m k=>(bor Z Z Z k)) (.det _ (fun Q K R m k=>(band Z Z Z k)) ?_)))))))))))))))
    refine .det _ (fun Q K R m k=>(bor Z Z Z k)) (.nil (Ad 17 ((Id Z Z Z (Ad 18 ((Ak Z Z (A6 (qn (Ab (A5 mo (A3 [0,1] (fun _=>false) (by kernel_rfl) Z Z (.det _ (fun Q K R m k=>(slp (l':=1) Z Z Tryz.underlying293 Az Z Z (.inl Z) ⟨_,Z,by omega⟩ k)) (.det _ (fun Q K R m k=>(slp (h:=7) Z Z Tryz.underlying293 Az Z ⟨_,Z,by omega⟩ (.inl Z) Z k)) (.nil (Ad 2 ((cpy (r:=r9) (o:=1) (dl:=7) (dc:=7) (m:=7) (n:=7) ([Gi .u32 8 (shift (vs (wx bs 48) st i)) (shift_len hlen)]) Z Z Z Tryz.underlying325 Az .head (Z) (fun w ho h=>SrcN.at (own_take (m:=7) (ho _ _ (.head _))) (by rw [icells_len,List.length_take]; omega) (icells_one _ _)) (by rw [En]; omega) (shift_flat Z _ _) ?_))))))))))))))))))
    refine A6 (qn (Ab (Aa (oj (Gj (n':=4) Z Z Z Tryz.underlying293 Az (by decide) Z (oj (Bh Z Z Az (.head _) (B6 _ (Bp (by rw [shift_len hlen]; omega))) (oj (mv Z Z (oj (Id Z Z Z (oj (Gj (n':=4) Z Z Z Tryz.underlying293 Az (by decide) Z (oj (stX ([Gi .u32 8 ((shift (vs (wx bs 48) st i)).set 4 _) (by rw [List.length_set]; exact shift_len hlen)]) Z Z Az Z .head (by rw [En]; omega) (Ey _ _) (on (qn (Aa (oj (mv Z Z (oj (mv Z Z (oj (Id Z Z Z ?_))))))))))))))))))))))))
    exact oj (Gj (n':=0) Z Z Z Tryz.underlying293 Az (by decide) Z (oj (stX ([Gi .u32 8 (vs (wx bs 48) st (i+1)) (vs_len _ hst (i+1))]) Z Z Az Z .head (by rw [En]; omega) (Ey _ _) (on (bn (qn (Aa (oj (add Z Z Z (by omega) (oj (mv Z Z (on (qn (Ar (i+1) (by dsimp only; omega) (by dsimp only; omega) (⟨Z,Z,Z,Z,tR⟩) (.refl _) (fun w h=>⟨(h.1),tR⟩)))))))))))))))
   ·have h4:i=64:=by omega
    subst h4
    refine A1 (qe (qe (be (qn (Ab (Aa (oj (mv Z Z (on (qn (Ag (Aw (fun (sT:(Nat))=>(⟨sT≤8,[(0,Bg r 0),(9,Bg r9 0),(129,.int .i64 (sT:Int))],[bx r9 [Gi .u32 8 (vs (wx bs 48) st 64) (vs_len _ hst 64)] 293,bx r [Gi .u32 8 (sOut st (vs (wx bs 48) st 64) sT) (sOut_len _ hst sT)] 293],fun _=>True,8-sT⟩:Hd)) (0) (by dsimp only; omega) (⟨Z,Z,Z,tR⟩) (.cons_cons _ (.cons _ (.refl _))) (fun w h=>tR) ?_))))))))))))
    rintro i hi
    try dsimp only
    have hlen:=vs_len (wx bs 48) hst 64
    have hol:=sOut_len (vs (wx bs 48) st 64) hst i
    refine Ab (Aa (oj (Dd Z Z Z (on (qn (Ab ?_))))))
    refine A8 Z (fun ht=>?_) (fun hf=>?_)
    ·refine Ah (qn (Ab (Ag (Ab (Aa (oj (mv Z Z (oj (Ak Z Z (on (qn (A5 mo (A3 [0,1,2,3,4,5,6,7,8,9] (fun _=>false) (by kernel_rfl) Z Z (.det _ (fun Q K R m k=>(mv Z Z k)) (.det _ (fun Q K R m k=>(mv Z Z k)) (.det _ (fun Q K R m k=>(Cq Z Z k)) (.det _ (fun Q K R m k=>(Gj (n':=i) Z Z Z Tryz.underlying293 Az (by omega) (by simp) k)) ?_)))))))))))))))))
     refine .det _ (fun Q K R m k=>(Bh Z Z Az (.tail _ (.head _)) (B6 _ (Bp (by omega))) k)) (.det _ (fun Q K R m k=>(mv Z Z k)) (.det _ (fun Q K R m k=>(Gj (n':=i) Z Z Z Tryz.underlying293 Az (by omega) (by simp) k)) (.det _ (fun Q K R m k=>(Bh Z Z Az (.head _) (B6 _ (Bp (by omega))) k)) (.det _ (fun Q K R m k=>(Id Z Z Z k)) (.det _ (fun Q K R m k=>(Cq Z Z k)) (.nil (Ad 10 ((Gj (n':=i) Z Z Z Tryz.underlying293 Az (by omega) (by simp) (Ad 11 ((stX ([Gi .u32 8 (sOut st (vs (wx bs 48) st 64) (i+1)) (sOut_len _ hst (i+1))]) Z Z Az Z (.tail .head) (by rw [En]; omega) (Ey _ _) (A6 (bn (qn (Aa (oj (add Z Z Z (by omega) ?_))))))))))))))))))
     exact oj (mv Z Z (on (qn (Ar (i+1) (by dsimp only; omega) (by dsimp only; omega) (⟨Z,Z,Z,tR⟩) (.refl _) (fun w h=>tR)))))
    ·have h4:i=8:=by omega
     subst h4
     exact A1 (qe (qe (be (As () Z .nil Z tR (.cons _ (.refl _)) (fun w h=>tR) (.inr Z)))))
theorem Sl.upto {n cap k:Nat} {a:Option Addr} {bs:List UInt8} {w:World} (h:Sl 1 n (An bs) (.slice a n cap) w) (hb:bs.length=n) (hk:k≤n) (hc:n≤cap):Sl 1 k (An (bs.take k)) (.slice a k cap) w:=by
 have:=h.part (Nat.zero_le k) hk (Nat.le_trans hk hc)
 simp only [Nat.zero_mul,Nat.mul_one,List.drop_zero,bcells_take,Nat.sub_zero] at this
 have e:(if cap=0 then a else a.map (·.add 0))=a:=by
  split
  ·rfl
  ·cases a <;> simp [Addr.add]
 obtain ⟨a',cap',e1,h2,h3,h4,h5⟩:=this
 rw [e] at e1
 cases e1
 exact ⟨a,cap,Z,Nat.le_trans hk hc,h3,h4,h5⟩
def sumSt (bs:List UInt8):Nat→List Int
 | 0=>B9
 | k+1=>absb (sumSt bs k) ((bs.drop (64*k)).take 64)
theorem I2 (bs:List UInt8):∀ k,(sumSt bs k).length=8
 | 0=>rfl
 | k+1=>absb_len _ (I2 bs k)
def sRest (bs:List UInt8):List UInt8:=bs.drop (64*(bs.length / 64))
def sL (bs:List UInt8):Nat:=if bs.length % 64 > 55 then 128 else 64
def sE1 (bs:List UInt8):List UInt8:=sRest bs++List.replicate (128-bs.length % 64) 0
theorem sRest_len (bs:List UInt8):(sRest bs).length=bs.length % 64:=by rw [sRest,List.length_drop]; omega
theorem sE1_len (bs:List UInt8):(sE1 bs).length=128:=by rw [sE1,List.length_append,sRest_len,List.length_replicate]; omega
def sE2 (bs:List UInt8):List UInt8:=(sE1 bs).set (bs.length % 64) 128
theorem sE2_len (bs:List UInt8):(sE2 bs).length=128:=by rw [sE2,List.length_set,sE1_len]
def sE (bs:List UInt8):List UInt8:=putI (sE2 bs) (sL bs-8) 8 (bs.length*8 % 18446744073709551616) 8
theorem sE_len (bs:List UInt8):(sE bs).length=128:=by rw [sE,Kf,sE2_len]
def finSt (bs:List UInt8):Nat→List Int
 | 0=>sumSt bs (bs.length / 64)
 | k+1=>absb (finSt bs k) (((sE bs).drop (64*k)).take 64)
theorem Kp (bs:List UInt8):∀ k,(finSt bs k).length=8
 | 0=>I2 bs _
 | k+1=>absb_len _ (Kp bs k)
def dB (st:List Int):Nat→List UInt8
 | 0=>List.replicate 32 0
 | i+1=>putI (dB st i) (4*i) 4 (IntKind.u64.wrap (st.getD i 0)).toNat 4
theorem dB_len (st:List Int):∀ i,(dB st i).length=32
 | 0=>by simp [dB]
 | i+1=>by rw [dB,Kf,dB_len st i]
theorem sha_ex:∃ f:List UInt8→Dig,∀ bs,f bs=⟨dB (finSt bs (sL bs / 64)) 8,dB_len _ 8⟩:=⟨_,fun _=>rfl⟩
noncomputable def sha:List UInt8→Dig:=Classical.choose sha_ex
theorem sha_def (bs:List UInt8):sha bs=⟨dB (finSt bs (sL bs / 64)) 8,dB_len _ 8⟩:=Classical.choose_spec sha_ex bs
theorem dig_v (xs:List UInt8) (h:xs.length=32):resV [Value.agg (It 32 xs h).cs.toArray]=dv ⟨xs,h⟩:=rfl
theorem sha_v (bs:List UInt8):resV [Value.agg (It 32 (dB (finSt bs (sL bs / 64)) 8) (dB_len _ 8)).cs.toArray]=dv (sha bs):=by
 rw [sha_def]
 exact dig_v _ _
theorem u64_nv (x:Int):Value.int .u64 (IntKind.wrap .u64 x)=nv (IntKind.wrap .u64 x).toNat:=by
 rw [E9]; congr 1; omega
theorem sby_cat {B m:Nat} {bs:List UInt8} (hm:bs.length=m) (hle:m≤B) (h1:(List.replicate B (0:UInt8)).length=B) (h2:(bs++List.replicate (B-m) 0).length=B) :
  flat [It B (bs++List.replicate (B-m) 0) h2]=(flat [It B (List.replicate B 0) h1]).take 0++An bs++(flat [It B (List.replicate B 0) h1]).drop (0+m*1):=by
 simp [Ib,It,An,List.map_append]
theorem row_win {r k:Nat} {bs:List UInt8} {te:TypeId} {w:World} {N L cap:Nat} {h:bs.length=N} (hr:Bc r [It N bs h] te w) (hk:k+L≤N) (hc:L≤cap):Sl 1 L (An ((bs.drop k).take L)) (.slice (some ⟨r,k,none⟩) L cap) w:=by
 refine hr.sl (fun j v hv=>?_) (by rw [Br,List.length_take,List.length_drop]; omega) (Co _) hc
 rw [Ib]
 simp only [It,An,List.map_take,List.map_drop] at hv ⊢
 rw [List.getElem?_take] at hv
 split at hv
 ·rwa [List.getElem?_drop] at hv
 ·cases hv
theorem sum_spec (bs:List UInt8) (a:Option Addr) (cap:Nat) (hcap:bs.length≤cap) (hn:bs.length < 281474976710656):Ay Tryz.prog 172 [.slice a bs.length cap] [] (fun w=>Sl 1 bs.length (An bs) (.slice a bs.length cap) w∧De 1 (Av .u32 B9) w∧De 3 (Av .u32 D1) w∧True) (fun _:Unit=>⟨True,dv (sha bs),[],fun _=>True⟩):=by
 refine Aj Tryz.func172 Z Z fun X w0=>(Ab (Aa (oj (C7 Z Jb (fun r2=>(on (qn (Ab (Aa (oj (D4 Z Z ty_292 Z (fun w h=>(h.2.1)) (Ac (d:=9) (v:=.agg (Gi .u32 8 B9 kStart_len).cs.toArray) Z (Z) (oj (C7 Z zok_293 (fun r3=>(oj (Cf Z Z ty_293 Z .head (.head Z) Z (on (qn (Ab (Aa ?_)))))))))))))))))))))
 refine oj (mkF Z (.cons Z .nil) .nil (oj (Ak Z Z (on (qn (Ab (Aa (oj (mv Z Z (oj (Ak Z Z (on (qn (Ab ?_))))))))))))))
 refine Jo (fun (sT:(Option Addr) × (Nat))=>(⟨bs.length % 64≤sT.2,[(0,.slice a bs.length cap),(2,Bg r2 0),(3,Bg r3 0),(4,.func (.func 222) #[Bg r3 0] #[]),(5,.slice sT.1 (bs.length % 64) sT.2)],[bx r3 [Gi .u32 8 (sumSt bs (bs.length / 64)) (I2 bs _)] 293,bx r2 z_23 23],fun w=>Sl 1 (bs.length % 64) (An (sRest bs)) (.slice sT.1 (bs.length % 64) sT.2) w∧De 3 (Av .u32 D1) w∧True,0⟩:Hd)) ?_ ?_
 ·refine Ag (Aw (fun (sT:(Nat) × (Option Addr) × (Nat))=>(⟨64*sT.1≤bs.length∧bs.length-64*sT.1≤sT.2.2,[(0,.slice a bs.length cap),(2,Bg r2 0),(3,Bg r3 0),(4,.func (.func 222) #[Bg r3 0] #[]),(5,.slice sT.2.1 (bs.length-64*sT.1) sT.2.2)],[bx r3 [Gi .u32 8 (sumSt bs sT.1) (I2 bs sT.1)] 293,bx r2 z_23 23],fun w=>Sl 1 (bs.length-64*sT.1) (An (bs.drop (64*sT.1))) (.slice sT.2.1 (bs.length-64*sT.1) sT.2.2) w∧De 3 (Av .u32 D1) w∧True,bs.length-64*sT.1⟩:Hd)) (0,a,cap) (⟨by dsimp only; omega,by dsimp only; omega⟩) (⟨Z,Z,Z,Z,Z,tR⟩) (.refl _) (fun w h=>⟨by simpa using (h.1),(h.2.2.1),tR⟩) ?_)
  rintro ⟨k,a1,c1⟩ ⟨hk,hc⟩
  try dsimp only
  try dsimp only at hk hc
  refine Ab (Ab (Aa (oj (mv Z Z (oj (Bn Z Z Tryz.underlying53 Z (oj (gei Z Z Z (on (qn ?_))))))))))
  refine A8 Z (fun ht=>?_) (fun hf=>?_)
  ·refine Ah (qn (Ab (Ag (Aa (oj (mv Z Z (oj (mv Z Z (oj (slc (h:=64) Z Z Tryz.underlying53 Bv Z ⟨_,Z,by omega⟩ (.inl Z) Z (Ac (d:=19) (v:=.slice a1 64 c1) Z (by simp [Addr.add]) (oj (Ce Z Z (.cons Z .nil) fb_222 (absorb_spec r3 64 c1 a1 _ (I2 bs k) ((bs.drop (64*k)).take 64) (by rw [List.length_take,List.length_drop]; omega) (by omega) (by omega)) (fun _=>.head) (fun _=>Z) (fun w h=>⟨Sl.upto (h.1) (by rw [List.length_drop]) (by omega) hc,(h.2.1),tR⟩) ?_)))))))))))))
   rintro _ _
   try dsimp only
   exact on (bn (qn (Aa (oj (mv Z Z (oj (slc (l':=64) Z Z Tryz.underlying53 Bv Z Z (.inl Z) ⟨_,Z,by omega⟩ (Ac (d:=16) (v:=.slice (if c1=64 then a1 else a1.map (·.add (64*1))) (bs.length-64*(k+1)) (c1-64)) Z (by first | rfl | (congr 1; omega)) (oj (Ak Z Z (on (qn (Ar (k+1,_,c1-64) (by dsimp only; omega) (⟨by dsimp only; omega,by dsimp only; omega⟩) (⟨Z,Z,Z,Z,Z,tR⟩) (.refl _) (fun w h=>⟨by have:=Sl.from (h.2.1) (by rw [List.length_drop]) (k:=64) (by omega) hc; rwa [List.drop_drop,show bs.length-64*k-64=bs.length-64*(k+1) from by omega,show 64*k+64=64*(k+1) from by omega] at this,(h.2.2.1),tR⟩))))))))))))))
  ·refine A1 (qe (qe (be (qn ?_))))
   have hk64:k=bs.length / 64:=by omega
   subst hk64
   have hm:bs.length-64*(bs.length / 64)=bs.length % 64:=by omega
   exact Ac (d:=5) (v:=.slice a1 (bs.length % 64) c1) Z (by rw [hm]) (Dm (a1,c1) (by dsimp only; omega) (⟨Z,Z,Z,Z,Z,tR⟩) (.refl _) (fun w h=>⟨by have:=(h.1); rw [hm] at this; exact this,(h.2.1),tR⟩))
 rintro ⟨a1,c1⟩ hc
 try dsimp only
 try dsimp only at hc
 refine Ab (Aa (oj (mkb (n:=64) (c:=128) Z Z Z Hj (by kernel_rfl) (by decide) (by decide) (fun r21=>(oj (Ak Z Z (on (qn (Ab (Aa (oj (mv Z Z (oj (mv Z Z ?_))))))))))))))
 have hrl:=sRest_len bs
 have h64:bs.length % 64 < 64:=Nat.mod_lt _ (by omega)
 refine oj (cpy (r:=r21) (o:=0) (dl:=64) (dc:=128) (m:=bs.length % 64) (n:=bs.length % 64) ([It 128 (sE1 bs) (sE1_len bs)]) Z Z Z Tryz.underlying53 Bv .head ((Nat.min_eq_left (by omega)).symm) (fun w ho h=>(h.1).src.n) (by rw [Ib]; simp [zby,It,An]; omega) (sby_cat hrl (by omega) _ _) (on (qn (Ab (Aa (oj (mv Z Z (oj (mv Z Z (oj (Bn Z Z Tryz.underlying53 Z (oj (ixR (n':=bs.length % 64) Z Z Z Tryz.underlying53 Bv (by omega) (by omega) (oj (stX ([It 128 (sE2 bs) (sE2_len bs)]) Z Z Bv Z .head (by rw [sby_len]; omega) (sby_set (m:=128) _ _) (on (qn (Ab ?_))))))))))))))))))
 refine Jo (fun (sT:(Nat))=>(⟨sT=sL bs,[(0,.slice a bs.length cap),(2,Bg r2 0),(3,Bg r3 0),(4,.func (.func 222) #[Bg r3 0] #[]),(6,.slice (some ⟨r21,0,none⟩) sT 128)],[bx r21 [It 128 (sE2 bs) (sE2_len bs)] 5,bx r3 [Gi .u32 8 (sumSt bs (bs.length / 64)) (I2 bs _)] 293,bx r2 z_23 23],fun w=>De 3 (Av .u32 D1) w∧True,0⟩:Hd)) ?_ ?_
 ·refine Ab (Aa (oj (mv Z Z (oj (Bn Z Z Tryz.underlying53 Z (oj (gti Z Z Z (on (qn ?_)))))))))
  refine A8 Z (fun ht=>?_) (fun hf=>?_)
  ·exact Aa (oj (mv Z Z (oj (slc (h:=128) Z Z Tryz.underlying53 Bv Z ⟨_,Z,by omega⟩ (.inl Z) Z (Ac (d:=33) (v:=.slice (some ⟨r21,0,none⟩) 128 128) Z (by simp [Addr.add]) (oj (Ak Z Z (on (qn (Dm (128) (by show 128=_; rw [sL,if_pos (by omega)]) (⟨Z,Z,Z,Z,Z,tR⟩) (.refl _) (fun w h=>⟨(h.2.1),tR⟩)))))))))))
  ·exact Ah (qn (Dm (64) (by show 64=_; rw [sL,if_neg (by omega)]) (⟨Z,Z,Z,Z,Z,tR⟩) (.refl _) (fun w h=>⟨(h.2.1),tR⟩)))
 rintro L hL
 try dsimp only
 have hLs:L=64∨L=128:=by rw [hL,sL]; split <;> simp
 refine Ab (Aa (oj (mv Z Z (oj (mv Z Z (oj (Bn Z Z Tryz.underlying53 Z (oj (sub Z Z Z (by omega) (oj (slc (l':=L-8) Z Z Tryz.underlying53 Bv Z Z (.inl Z) ⟨_,congrArg some (congrArg (Value.int .i64) (show (L:Int)-8=((L-8:Nat):Int) by omega)),by omega⟩ ?_)))))))))))
 refine Ac (d:=38) (v:=.slice (some ⟨r21,L-8,none⟩) 8 (128-(L-8))) Z (by rw [if_neg (by omega)]; rcases hLs with rfl | rfl <;> rfl) (oj (mv Z Z (oj (Bn Z Z Tryz.underlying53 Z (oj (Ig Z Tryz.underlying3 Tryz.underlying205 Z (Ac (d:=41) (v:=nv bs.length) Z (by rw [C4 (by omega)]) (oj (mulM (b:=8) Z Z Z Z Z  (oj (Ce Z Z (.cons Z (.cons Z .nil)) fb_223 (put_spec r21 (L-8) 8 (128-(L-8)) 128 5 (sE2 bs) (sE2_len bs) (bs.length*8 % 18446744073709551616) (by omega) (by omega)) (fun _=>.head) (fun _=>Z) (fun w h=>tR) ?_)))))))))))
 rintro _ _
 try dsimp only
 refine on (qn (Ab (Ag (Al (Am 0 _ _ Z) ?_))))
 try dsimp only [List.eraseIdx]
 refine Aw (fun (sT:(Nat) × (Nat))=>(⟨64*sT.1≤L∧(64*sT.1 < L→sT.2=64*sT.1),[(0,.slice a bs.length cap),(2,Bg r2 0),(3,Bg r3 0),(4,.func (.func 222) #[Bg r3 0] #[]),(6,.slice (some ⟨r21,sT.2,none⟩) (L-64*sT.1) (128-64*sT.1))],[bx r3 [Gi .u32 8 (finSt bs sT.1) (Kp bs sT.1)] 293,bx r2 z_23 23],fun w=>Bc r21 [It 128 (sE bs) (sE_len bs)] 5 w∧De 3 (Av .u32 D1) w∧True,L-64*sT.1⟩:Hd)) (0,0) (by dsimp only; omega) (⟨Z,Z,Z,Z,Z,tR⟩) (.refl _) (fun w h=>⟨by have:=(h.1.1); subst hL; exact this,(h.2.2.1),tR⟩) ?_
 rintro ⟨j,o⟩ ⟨hj,ho⟩
 try dsimp only
 try dsimp only at hj ho
 refine Ab (Ab (Aa (oj (mv Z Z (oj (Bn Z Z Tryz.underlying53 Z (oj (gti Z Z Z (on (qn ?_))))))))))
 refine A8 Z (fun ht=>?_) (fun hf=>?_)
 ·have ho:=ho (by omega)
  subst ho
  refine Ah (qn (Ab (Ag (Aa (oj (mv Z Z (oj (mv Z Z (oj (slc (h:=64) Z Z Tryz.underlying53 Bv Z ⟨_,Z,by omega⟩ (.inl Z) Z (Ac (d:=51) (v:=.slice (some ⟨r21,64*j,none⟩) 64 (128-64*j)) Z (by rw [if_neg (by omega)]; simp [Addr.add]) (oj (Ce Z Z (.cons Z .nil) fb_222 (absorb_spec r3 64 (128-64*j) (some ⟨r21,64*j,none⟩) _ (Kp bs j) (((sE bs).drop (64*j)).take 64) (by rw [List.length_take,List.length_drop,sE_len]; omega) (by omega) (by omega)) (fun _=>.head) (fun _=>Z) (fun w h=>⟨row_win (h.1) (by omega) (by omega),(h.2.1),tR⟩) ?_)))))))))))))
  rintro _ _
  try dsimp only
  refine on (bn (qn (Aa (oj (mv Z Z (oj (slc (l':=64) Z Z Tryz.underlying53 Bv Z Z (.inl Z) ⟨_,Z,by omega⟩ ?_)))))))
  refine Ac (d:=48) (v:=.slice (some ⟨r21,if 128-64*j=64 then 64*j else 64*j+64,none⟩) (L-64*(j+1)) (128-64*(j+1))) Z (by split <;> simp [Addr.add] <;> omega) (oj (Ak Z Z (on (qn ?_))))
  exact Ar (j+1,if 128-64*j=64 then 64*j else 64*j+64) (by dsimp only; omega) (by dsimp only; refine ⟨by omega,fun h=>?_⟩; rw [if_neg (by omega)]; omega) (⟨Z,Z,Z,Z,Z,tR⟩) (.refl _) (fun w h=>⟨(h.2.1),(h.2.2.1),tR⟩)
 ·have hj2:j=sL bs / 64:=by omega
  subst hj2
  refine A1 (qe (qe (be (qn (Ab (Ab (Aa (oj (Js Z Z ty_293 (.head _) Z Z (oj (mv Z Z (on (qn (Ag (Aw (fun (sT:(Nat))=>(⟨sT≤8,[(2,Bg r2 0),(53,.agg (Gi .u32 8 (finSt bs (sL bs / 64)) (Kp bs _)).cs.toArray),(54,.int .i64 (sT:Int))],[bx r2 [It 32 (dB (finSt bs (sL bs / 64)) sT) (dB_len _ sT)] 23],fun _=>True,8-sT⟩:Hd)) (0) (by dsimp only; omega) (⟨Z,Z,Z,tR⟩) (.cons _ (.refl _)) (fun w h=>tR) ?_)))))))))))))))
  rintro i hi
  try dsimp only
  have hfl:=Kp bs (sL bs / 64)
  refine Ab (Aa (oj (Dd Z Z Z (on (qn (Ab ?_))))))
  refine A8 Z (fun ht=>?_) (fun hf=>?_)
  ·refine Ah (qn (Ab (Ag (Ab (Aa (oj (mv Z Z (oj (ixv1 Z Z Z Tryz.underlying293 Az Z (by omega) (icells_get (Bp (by omega))) (oj (Ak Z Z (oj (Ak Z Z (on (qn (Aa (oj (mv Z Z (oj (mul Z Z Z (by omega) (oj (mv Z Z ?_))))))))))))))))))))))
   refine oj (mul Z Z Z (by omega) (oj (add Z Z Z (by omega) (oj (slp (l':=4*i) (h:=4*i+4) Z Z Tryz.underlying23 Bv Z ⟨_,congrArg some (congrArg (Value.int .i64) (show (4:Int)*i+4=((4*i+4:Nat):Int) by omega)),by omega⟩ (.inl Z) ⟨_,congrArg some (congrArg (Value.int .i64) (show (4:Int)*i=((4*i:Nat):Int) by omega)),by omega⟩ (Ac (d:=63) (v:=.slice (some ⟨r2,4*i,none⟩) 4 (32-4*i)) Z (by rw [if_neg (by omega)]; rw [show 4*i+4-4*i=4 from by omega]; simp [Addr.add]; omega) (oj (mv Z Z (oj (Ig Z Tryz.underlying252 Tryz.underlying205 Z (Ac (d:=65) (v:=nv (IntKind.wrap .u64 ((finSt bs (sL bs / 64)).getD i 0)).toNat) Z (u64_nv _) (oj (Ce Z Z (.cons Z (.cons Z .nil)) fb_223 (put_spec r2 (4*i) 4 (32-4*i) 32 23 (dB (finSt bs (sL bs / 64)) i) (dB_len _ i) _ (by omega) (by omega)) (fun _=>.head) (fun _=>Z) (fun w h=>tR) ?_)))))))))))))
   rintro _ _
   try dsimp only
   exact on (bn (qn (Aa (oj (add Z Z Z (by omega) (oj (mv Z Z (on (qn (Ar (i+1) (by dsimp only; omega) (by dsimp only; omega) (⟨Z,Z,Z,tR⟩) (.refl _) (fun w h=>tR)))))))))))
  ·have h8:i=8:=by omega
   subst h8
   exact A1 (qe (qe (be (qn (Ab (Aa (oj (Js Z Z Dc (.head _) Z Z (oj (Cf Z Z Dc Z .head (.head Z) Z (on (qn (Af (As () Z (Hk Z Dc (.head _) Z .nil) (sha_v bs) tR (Bl _) (fun w h=>tR) (.inl Z)))))))))))))))
theorem flat_take {bss:List (List UInt8)} {i:Nat} {b:List UInt8} (h:bss[i]? = some b):(bss.take (i+1)).flatten=(bss.take i).flatten++b:=by
 have:=List.take_add_one (l:=bss) (i:=i)
 rw [h] at this
 rw [this]; simp
theorem Cs (a b:List UInt8):An (a++b)=An a++An b:=by simp [An]
theorem flat_take_le (bss:List (List UInt8)) (i:Nat):(bss.take i).flatten.length≤bss.flatten.length:=by
 have:=List.take_append_drop i bss
 have h2:bss.flatten=(bss.take i).flatten++(bss.drop i).flatten:=by rw [← List.flatten_append,this]
 rw [h2,List.length_append]; omega
theorem growB_spec (n:Nat) (hn:n≤140737488355328):Ay Tryz.prog 173 [.slice none 0 0,.int .i64 (n:Int)] [] (fun _=>True) (fun x:Value × A9=>⟨Own 5 1 x.1 0 [] x.2,x.1,[x.2],fun _=>True⟩):=by
 refine Aj Tryz.func173 Z Z fun X w0=>(Cx (Ab (Aa (oj (Ak Z Z (on (qn (Ab (Ab (Aa (oj (mv Z Z (oj (Dd Z Z Z (on (qn (A8 Z (fun ht=>absurd ht (by omega)) (fun hf=>(Ah ?_)))))))))))))))))))
 refine qn (Ab ?_)
 refine Jo (fun (sT:(Value) × (A9))=>(⟨Own 5 1 sT.1 0 [] sT.2,[(0,sT.1)],[sT.2],fun _=>True,0⟩:Hd)) ?_ ?_
 ·refine Ab (Aa (oj (mv Z Z (oj (mv Z Z (oj (caps Z Z Tryz.underlying53 Z (oj (mv Z Z (oj (Bn Z Z Tryz.underlying53 Z (oj (sub Z Z Z (by omega) (oj (sub Z Z Z (by omega) (Ac (d:=14) (v:=.int .i64 (n:Int)) Z (by first | rfl | (congr 1; omega)) (oj (Ak Z Z (on (qn (Ab (Aa (oj (mv Z Z ?_))))))))))))))))))))))))
  refine oj (gti Z Z Z (on (qn ?_)))
  refine A8 Z (fun ht=>?_) (fun hf=>?_)
  ·refine Aa (oj (mv Z Z (oj (mv Z Z (oj (caps Z Z Tryz.underlying53 Z (oj (slc Z Z Tryz.underlying53 Bv Z ⟨_,Z,by omega⟩ (.inl Z) Z (Ac (d:=20) (v:=.slice none 0 0) Z (by simp [Addr.add]) (oj (mv Z Z (oj (apz (i:=0) Z Z Z Hj Tryz.underlying3 Z (by omega) (by omega) (by simp only [maxLen]; omega) ?_)))))))))))))
   rintro a cap xs en hown
   dsimp only [List.set]
   exact oj (mv Z Z (oj (Bn Z Z Tryz.underlying53 Z (oj (slc Z Z Tryz.underlying53 Bv Z ⟨_,Z,by omega⟩ (.inl Z) Z (Ac (d:=25) (v:=.slice (some a) 0 cap) Z (by simp [Addr.add]) (oj (Ak Z Z (on (qn (Dm (.slice (some a) 0 cap,en) (by simpa using hown.cut (Nat.zero_le n)) (⟨Z,tR⟩) (.refl _) (fun w h=>tR))))))))))))
  ·exact Ah (qn (Dm (.slice none 0 0,none) (.nil) (⟨Z,tR⟩) (.refl _) (fun w h=>tR)))
 rintro ⟨v,en⟩ ho
 try dsimp only
 try dsimp only at ho
 exact Ab (Aa (oj (mv Z Z (oj (Ak Z Z (on (qn (Af (As (v,en) Z (.tmp Z .nil) Z ho (.refl _) (fun w h=>tR) (.inl Z))))))))))
theorem concatB_spec (a:Option Addr) (n cap:Nat) (vs:List Value) (bss:List (List UInt8)) (hn:n≤1000000) (hl:vs.length=n) (hs:bss.length=n) (hb:bss.flatten.length≤140737488355328):Ay Tryz.prog 100 [.slice a n cap] [] (fun w=>Sl 1 n vs (.slice a n cap) w∧Parts bss vs w∧True) (fun x:Option Addr × Nat=>⟨bss.flatten.length≤x.2,.slice x.1 bss.flatten.length x.2,[],fun w=>Sl 1 bss.flatten.length (An bss.flatten) (.slice x.1 bss.flatten.length x.2) w∧True⟩):=by
 refine Aj Tryz.func100 Z Z fun X w0=>(Ab (Aa (oj (Ak Z Z (on (qn (Ab (Aa (oj (Ak Z Z (on (qn (Ab (Ab (Aa (oj (mv Z Z (oj (Bn Z Z Tryz.underlying244 Z ?_)))))))))))))))))))
 refine oj (mv Z Z (on (qn (Ag (Aw (fun (sT:(Nat))=>(⟨sT≤n,[(0,.slice a n cap),(3,.int .i64 ((bss.take sT).flatten.length:Int)),(9,.slice a n cap),(10,.int .i64 (n:Int)),(11,.int .i64 (sT:Int))],[],fun w=>Sl 1 n vs (.slice a n cap) w∧Parts bss vs w∧True,n-sT⟩:Hd)) (0) (by dsimp only; omega) (⟨Z,Z,Z,Z,Z,tR⟩) .slnil (fun w h=>⟨(h.1),(h.2.1),tR⟩) ?_)))))
 rintro i hi
 try dsimp only
 refine Ab (Aa (oj (Dd Z Z Z (on (qn (Ab ?_))))))
 refine A8 Z (fun ht=>?_) (fun hf=>?_)
 ·obtain ⟨bi,hbi⟩:∃ x,bss[i]? = some x:=⟨_,List.getElem?_eq_getElem (by omega)⟩
  obtain ⟨vi,hvi⟩:∃ x,vs[i]? = some x:=⟨_,List.getElem?_eq_getElem (by omega)⟩
  refine Iv (fun w h=>((h.2.1).2 i vi bi hvi hbi).shape) ?_
  rintro ⟨ai,ci,rfl,hci,hli⟩
  have hft:=flat_take hbi
  have hfl:=flat_take_le bss (i+1)
  rw [hft,List.length_append] at hfl
  refine Ah (qn (Ab (Ag (Ab (Aa (oj (Fc Z Z Z Tryz.underlying244 Bt (by omega) (fun w h=>Sl.some (h.1) (by omega)) (oj (A4 Z Z Bt (fun w h=>Sl.elem1 (h.1) hvi) (oj (Ak Z Z (on (qn (Ab (Aa (oj (mv Z Z (oj (mv Z Z (oj (Bn Z Z Tryz.underlying53 Z ?_)))))))))))))))))))))
  refine oj (add Z Z Z (by omega) (Ac (d:=18) (v:=.int .i64 ((bss.take (i+1)).flatten.length:Int)) Z (by rw [hft,List.length_append]; first | rfl | (congr 1; omega)) (oj (Ak Z Z (on (qn (Ab (Aa (oj (mv Z Z (oj (Dd Z Z Z (on (qn (A8 Z (fun ht=>absurd ht (by omega)) (fun hf=>(Ah (bn (qn (Aa ?_))))))))))))))))))))
  exact oj (add Z Z Z (by omega) (oj (mv Z Z (on (qn (Ar (i+1) (by dsimp only; omega) (by dsimp only; omega) (⟨Z,Z,Z,Z,Z,tR⟩) .slnil (fun w h=>⟨(h.1),(h.2.1),tR⟩)))))))
 ·have h4:i=n:=by omega
  have hall:bss.take i=bss:=List.take_of_length_le (by omega)
  rw [hall]
  refine A1 (qe (qe (be (qn (Ab (Aa (oj (mv Z Z (oj (call Z Z (.cons Z (.cons Z .nil)) fb_173 (growB_spec bss.flatten.length hb)  (fun w h=>tR) ?_))))))))))
  rintro ⟨v,en⟩ ho
  try dsimp only at ho
  try dsimp only
  refine oj (Ak Z Z (on (qn (Ab (Ab (Aa (oj (mv Z Z (oj (Bn Z Z Tryz.underlying244 Z (oj (mv Z Z (on (qn (Ag (Aw (fun (sT:(Nat) × (Value) × (A9))=>(⟨sT.1≤n∧Own 5 1 sT.2.1 (bss.take sT.1).flatten.length (An (bss.take sT.1).flatten) sT.2.2,[(6,sT.2.1),(25,.slice a n cap),(26,.int .i64 (n:Int)),(27,.int .i64 (sT.1:Int))],[sT.2.2],fun w=>Sl 1 n vs (.slice a n cap) w∧Parts bss vs w∧True,n-sT.1⟩:Hd)) (0,v,en) (⟨Nat.zero_le _,ho⟩) (⟨Z,Z,Z,Z,tR⟩) (.refl _) (fun w h=>⟨(h.2.1),(h.2.2.1),tR⟩) ?_))))))))))))))))
  rintro ⟨i,v,en⟩ ⟨hi,ho⟩
  try dsimp only
  try dsimp only at hi ho
  refine Ab (Aa (oj (Dd Z Z Z (on (qn (Ab ?_))))))
  refine A8 Z (fun ht=>?_) (fun hf=>?_)
  ·obtain ⟨bi,hbi⟩:∃ x,bss[i]? = some x:=⟨_,List.getElem?_eq_getElem (by omega)⟩
   obtain ⟨vi,hvi⟩:∃ x,vs[i]? = some x:=⟨_,List.getElem?_eq_getElem (by omega)⟩
   refine Iv (fun w h=>((h.2.1).2 i vi bi hvi hbi).shape) ?_
   rintro ⟨ai,ci,rfl,hci,hli⟩
   have hft:=flat_take hbi
   have hfl:=flat_take_le bss (i+1)
   rw [hft,List.length_append] at hfl
   refine Ah (qn (Ab (Ag (Ab (Aa (oj (Fc Z Z Z Tryz.underlying244 Bt (by omega) (fun w h=>Sl.some (h.1) (by omega)) (oj (A4 Z Z Bt (fun w h=>Sl.elem1 (h.1) hvi) (oj (Ak Z Z (on (qn (Aa (oj (mv Z Z (oj (mv Z Z (oj (Ku Z Z Z Hj (by kernel_rfl) ho (i:=0) Z (fun w ho h=>((h.2.1).2 i _ bi hvi hbi).src) (by omega) (by simp only [maxLen]; omega) (fun v33 e33 ho33=>?_)))))))))))))))))))))
   try dsimp only [List.set]
   exact oj (Ak Z Z (on (bn (qn (Aa (oj (add Z Z Z (by omega) (oj (mv Z Z (on (qn (Ar (i+1,v33,e33) (by dsimp only; omega) (⟨by dsimp only; omega,by rw [hft,List.length_append,Cs]; exact ho33⟩) (⟨Z,Z,Z,Z,tR⟩) (.refl _) (fun w h=>⟨(h.1),(h.2.1),tR⟩)))))))))))))
  ·have h4:i=n:=by omega
   have hall:bss.take i=bss:=List.take_of_length_le (by omega)
   rw [hall] at ho
   refine A1 (qe (qe (be (qn (Ab (Aa (oj (mv Z Z (oj (Ak Z Z (on (qn (Af ?_)))))))))))))
   obtain ⟨av,cv,rfl,hcv⟩:=ho.shape'
   refine By (i:=0) Z ho (Co _) ?_
   try dsimp only [List.eraseIdx]
   exact As (av,cv) Z (.tmp Z .nil) Z hcv .slnil (fun w h=>⟨(h.1.1),tR⟩) (.inl Z)
noncomputable def E2 (tag bs:List UInt8):Dig:=sha [(sha tag).b,bs].flatten
theorem dig_sl {r:Nat} {d:Dig} {te:TypeId} {w:World} (h:Bc r [sd d] te w):Sl 1 32 (An d.b) (.slice (some ⟨r,0,none⟩) 32 32) w:=by
 have:=row_win (r:=r) (k:=0) (L:=32) (cap:=32) (h:=d.h) h (by omega) (by omega)
 rw [List.drop_zero,List.take_of_length_le (by rw [d.h]; omega)] at this
 exact this
theorem dig_sl' {r:Nat} {d:Dig} {te:TypeId} {w:World} (h:Bc r [sd d] te w):Sl 1 d.b.length (An d.b) (.slice (some ⟨r,0,none⟩) 32 32) w:=by
 rw [d.h]; exact dig_sl h
theorem Ee {r n:Nat} {segs:List Seg} {te:TypeId} {w:World} (h:Bc r segs te w) (hn:(flat segs).length=n) (h1:(flat segs).all (·.oneCell')=true):Sl 1 n (flat segs) (.slice (some ⟨r,0,none⟩) n n) w :=
 h.sl (fun j v hv=>by rw [Nat.zero_add]; exact hv) (by omega) h1 (Nat.le_refl _)
theorem parts2 {w:World} {v1 v2:Value} {b1 b2:List UInt8} (h1:Sl 1 b1.length (An b1) v1 w) (h2:Sl 1 b2.length (An b2) v2 w):Parts [b1,b2] [v1,v2] w:=by
 refine ⟨Z,fun i v bs hv hb=>?_⟩
 match i with
 | 0=>simp at hv hb; subst hv hb; exact h1
 | 1=>simp at hv hb; subst hv hb; exact h2
 | i+2=>simp at hv
theorem G0 (tag:ByteArray) (ht:tag.data.toList.length≤1000000) (bs:List UInt8) (a:Option Addr) (cap:Nat) (hcap:bs.length≤cap) (hn:bs.length≤140737488000000):Ay Tryz.prog 99 [.string tag,.slice a bs.length cap] [] (fun w=>Sl 1 bs.length (An bs) (.slice a bs.length cap) w∧De 1 (Av .u32 B9) w∧De 3 (Av .u32 D1) w∧True) (fun _:Unit=>⟨True,dv (E2 tag.data.toList bs),[],fun _=>True⟩):=by
 refine Aj Tryz.func99 Z Z fun X w0=>(Ab (Aa (oj (C7 Z Jb (fun r4=>(on (qn (Ab (Aa (oj (mv Z Z (oj (cvsb Z Z Tryz.underlying9 Tryz.underlying53 Tryz.underlying5 (fun a7 c7 hc7=>(oj (Ao Z Z (.cons Z .nil) fb_172 (sum_spec tag.data.toList (some a7) c7 hc7 (by omega))  (fun w h=>⟨(h.1.1),(h.2.2.1),(Cu h),tR⟩) Z (fun _=>(Ae (fun w h=>h.2) (oj (C7 Z Jb (fun r5=>(oj (Cf Z Z Dc Z .head (.head Z) Z (on (qn ?_)))))))))))))))))))))))))
 refine Ab (Aa (Al (Am 0 _ _ Z) ?_))
 try dsimp only [List.eraseIdx]
 refine oj (slp Z Z Tryz.underlying23 Bv Z Z (.inl Z) Z (Ac (d:=9) (v:=.slice (some ⟨r5,0,none⟩) 32 32) Z (by simp [Addr.add]) (oj (mv Z Z (oj (F7 Z Tryz.underlying244 Bt zok_53 (C3 Z Z (C3 Z Z .nil)) (by repeat (first | exact List.forall_mem_nil _ | refine List.forall_mem_cons.2 ⟨rfl,?_⟩)) Z (by decide) Z (fun r11=>?_)))))))
 refine Al (Am 0 _ _ Z) ?_
 try dsimp only [List.eraseIdx]
 have hfl:[(sha tag.data.toList).b,bs].flatten.length=32+bs.length:=by simp [(sha tag.data.toList).h]
 refine oj (call Z Z (.cons Z .nil) fb_100 (concatB_spec (some ⟨r11,0,none⟩) 2 2 [_,_] [(sha tag.data.toList).b,bs] (by omega) Z Z (by omega))  (fun w h=>⟨Ee (h.1.1) Z Z,parts2 (dig_sl' (h.2.1.1)) (Cu h),tR⟩) ?_)
 rintro ⟨ac,cc⟩ hcc
 try dsimp only at hcc
 try dsimp only
 exact oj (Ao Z Z (.cons Z .nil) fb_172 (sum_spec _ ac cc hcc (by omega))  (fun w h=>⟨(h.1.1),(Ez h),(Ec h),tR⟩) Z (fun _=>(Ae (fun w h=>h.2) (oj (Cf Z Z Dc Z .head (.head Z) Z (on (qn (Af (As () Z (Hk Z Dc (.head _) Z .nil) Z tR (Bl _) (fun w h=>tR) (.inl Z))))))))))
end Go.Chx
