/- The Go functions refine their models, part 5. -/
import Derived.Test.YtgnkkopjkgdieaaGreatLaneQuotasR4
set_option linter.unusedVariables false
set_option linter.unusedSimpArgs false
set_option maxRecDepth 100000
set_option maxHeartbeats 4000000
namespace Go.Proofs.YtgnkkopjkgdieaaGreat
open Go Go.V
open _root_.Go.Proofs.Tryz IntKind
attribute [local irreducible] wpList Code.wp wpQuiet Calls bodyPost Oper.wp wpS Nx PendOK YieldsIn
theorem law16_LaneQuotas_ref {w0 w : World} {I : HL} {R : SP} {a0 : Int} {a1 : Int} {a2 : Int} {a3 : (List Int)} {r3_0 : Value} (f3_0 : Ro (tyInt .u8) I r3_0 a3) (hst : St w0 w I [] R) {r : (Bool)} (hm : law16_LaneQuotas a0 a1 a2 a3 = some r) :
  Calls prog 3 #[U1 a0, U1 a1, U1 a2, r3_0] w fun e w' => ∃ (I' : HL), e = .returned (.bool r) ∧ I.le I' ∧ St w0 w' I' [] R := by {
 unfold law16_LaneQuotas at hm
 refine calls_start (args := [U1 a0, U1 a1, U1 a2, r3_0]) func3 z ntmps3 (Nat.le_of_ble_eq_true z) ?_
 have hI0 := HL.le.refl I
 refine wp_seq (wrl (wv (.bool false) z z z (wl_nil (tn (wp_seq (wp_seq (wrl ?_)))))))
 obtain ⟨t1213, ht1214, hm⟩ := bind_some hm
 refine wc call12 [] z z z ?_
 refine (law16_awake_ref hst.to0 ht1214).mono ?_
 rintro _ w1215 ⟨I1216, rfl, hI1217, hst⟩
 refine ⟨_, z, ?_⟩
 replace hst := hst.of0
 replace f3_0 := f3_0.mono (ro_le hI1217)
 replace hI0 := hI0.trans hI1217
 refine wv (.bool (!t1213)) z z z (wv (.bool (!t1213)) z z z ?_)
 refine bsplit (!t1213) (fun hc1218 => ?_) (fun hc1218 => ?_)
 {
 replace hm := bif_t hc1218 hm
 refine wo hc1218 z z z z z z (wo hc1218 z z z z z z (wo hc1218 z z z z z z (wv (.bool true) z z (x_pick_t hc1218 z z) (wl_nil (tn ?_)))))
 refine wp_ift z ?_
 refine wp_seq (wrl ?_)
 obtain ⟨t1219, ht1220, hm⟩ := bind_some hm
 refine wc call12 [] z z z ?_
 refine (law16_awake_ref hst.to0 ht1220).mono ?_
 rintro _ w1221 ⟨I1222, rfl, hI1223, hst⟩
 refine ⟨_, z, ?_⟩
 replace hst := hst.of0
 replace f3_0 := f3_0.mono (ro_le hI1223)
 replace hI0 := hI0.trans hI1223
 refine wv (.bool t1219) z z z (wl_nil (tn (wp_ret (then_r ?_))))
 obtain rfl := some_inj hm
 refine post_ret (vs := [.bool t1219]) results3 (rvs_cons (rv_tmp z) rvs_nil) ?_
 exact ⟨_, z, hI0, hst.keep0⟩
}
 {
 replace hm := bif_f hc1218 hm
 refine wv (r3_0) ((wanted_eq z z z (cvb hc1218)).trans z) z z (wv (.int .i64 ((a3).length : Int)) ((wanted_eq z z z (cvb hc1218)).trans z) z (x_len z underlying22 (ro_sliceV f3_0)) (wv (.bool (decide (((a3).length : Int) > (50:Int)))) ((wanted_eq z z z (cvb hc1218)).trans z) z z (wv (.bool (decide (((a3).length : Int) > (50:Int)))) z z (x_pick_f hc1218 z z) (wl_nil (tn ?_)))))
 refine bsplit (decide (((a3).length : Int) > (50:Int))) (fun hc1224 => ?_) (fun hc1224 => ?_)
 {
 replace hm := bif_t hc1224 hm
 refine wp_ift (cvb hc1224) ?_
 refine wp_seq (wrl ?_)
 obtain ⟨t1225, ht1226, hm⟩ := bind_some hm
 refine wc call12 [] z z z ?_
 refine (law16_awake_ref hst.to0 ht1226).mono ?_
 rintro _ w1227 ⟨I1228, rfl, hI1229, hst⟩
 refine ⟨_, z, ?_⟩
 replace hst := hst.of0
 replace f3_0 := f3_0.mono (ro_le hI1229)
 replace hI0 := hI0.trans hI1229
 refine wv (.bool t1225) z z z (wl_nil (tn (wp_ret (then_r ?_))))
 obtain rfl := some_inj hm
 refine post_ret (vs := [.bool t1225]) results3 (rvs_cons (rv_tmp z) rvs_nil) ?_
 exact ⟨_, z, hI0, hst.keep0⟩
}
 {
 replace hm := bif_f hc1224 hm
 refine wp_iff (cvb hc1224) ?_
 refine wp_skip (tn (wp_seq (wrl ?_)))
 refine wv (.int .u8 a2) z z z (wv (.int .i64 (i64.wrap a2)) z z (by kernel_rfl) (wv (.int .i64 (Int.tmod (i64.wrap a2) (20:Int))) z z (x_rem (by decide) z z) (wv (.int .i64 (Int.tmod (i64.wrap a2) (20:Int))) z z z (wl_nil (tn (wp_seq (wrl (wv (.int .i64 (Int.tmod (i64.wrap a2) (20:Int))) z z z ?_))))))))
 obtain ⟨t1230, ht1231, hm⟩ := bind_some hm
 refine wc call13 [I6 (Int.tmod (i64.wrap a2) (20:Int))] z z z ?_
 refine (lane_New_ref hst.to0 ht1231).mono ?_
 rintro _ w1232 ⟨v1235, rfl, hst⟩
 refine ⟨_, z, ?_⟩
 replace hst := hst.of1
 refine wv (v1235) z z z (wl_nil (tn (wp_seq (wrl (wv (.int .u8 a0) z z z (wv (.int .i64 (i64.wrap a0)) z z (by kernel_rfl) (wv (.int .i64 (Int.tmod (i64.wrap a0) (5:Int))) z z (x_rem (by decide) z z) (wv (.int .i64 (Int.tmod (i64.wrap a0) (5:Int))) z z z (wl_nil (tn ?_))))))))))
 obtain ⟨y1983, hm, hx1984⟩ := joinO_some hm
 refine wp_cut (fun a w => ∃ (I1980 : HL) (z1979 : lane_State) (σ1981 : Nat → Value), (law16_LaneQuotas_j0 a1 a0 a2 a3) z1979 = some r ∧ a = Fr 162 (upd (upd (upd (upd (upd σ1981 1 (.int .u8 a1)) 3 (r3_0)) 9 (.int .i64 (Int.tmod (i64.wrap a2) (20:Int)))) 10 (v1235)) 11 (.int .i64 (Int.tmod (i64.wrap a0) (5:Int)))) ∧ I1216.le I1980 ∧ St w0 w I1980 [at_lane_State v1235 z1979] R) ?_ ?_
 {
 have hL1985 := HL.le.refl I1216
 refine wp_seq (wrl (wv (.int .u64 (1:Int)) z z z (wl_nil (tn (wp_block ?_)))))
 obtain ⟨n1729, hm⟩ := loopO_some hm
 refine wp_loop_n (fun n a w => ∃ (I1727 : HL) (z1725 : lane_State) (z1726 : Int) (σ1728 : Nat → Value), loopN (law16_LaneQuotas_l1 a1 a3 a0) n (z1725, z1726) = some y1983 ∧ a = Fr 162 (upd (upd (upd (upd (upd (upd σ1728 1 (.int .u8 a1)) 3 (r3_0)) 9 (.int .i64 (Int.tmod (i64.wrap a2) (20:Int)))) 10 (v1235)) 11 (.int .i64 (Int.tmod (i64.wrap a0) (5:Int)))) 12 (.int .u64 z1726)) ∧ I1216.le I1727 ∧ St w0 w I1727 [at_lane_State v1235 z1725] R) n1729 ⟨_, t1230, (1:Int), _, hm, (fu 1 (.int .u8 a1) z (fu 3 r3_0 z (fu 9 (.int .i64 (Int.tmod (i64.wrap a2) (20:Int))) z (fu 10 v1235 z (fu 11 (.int .i64 (Int.tmod (i64.wrap a0) (5:Int))) z (fu 12 (.int .u64 (1:Int)) z z)))))), (HL.le.refl _), hst⟩ ?_
 rintro n1735 _ w1730 ⟨I1727, z1725, z1726, σ1728, hm, rfl, hL1731, hst⟩
 obtain ⟨n1732, y1733, rfl, hm, hx1734⟩ := loopN_some hm
 dsimp only [law16_LaneQuotas_l1] at hm
 replace f3_0 := f3_0.mono (ro_le hL1731)
 replace hI0 := hI0.trans hL1731
 replace hL1985 := hL1985.trans hL1731
 refine wp_seq (wp_seq (wrl (wv (.int .u64 z1726) z z z (wv (.bool (decide (z1726 < (4:Int)))) z z z (wl_nil (tn ?_))))))
 refine bsplit (decide (z1726 < (4:Int))) (fun hc1736 => ?_) (fun hc1736 => ?_)
 {
 replace hm := bif_t hc1736 hm
 refine wp_ift (cvb hc1736) ?_
 refine wp_skip (tn (wp_seq (wp_block ?_)))
 obtain ⟨y1946, hm, hx1947⟩ := joinO_some hm
 refine wp_cut (fun a w => ∃ (I1943 : HL) (z1942 : lane_State) (σ1944 : Nat → Value), (law16_LaneQuotas_j2 z1726) z1942 = some y1733 ∧ a = Fr 162 (upd (upd (upd (upd (upd (upd σ1944 1 (.int .u8 a1)) 3 (r3_0)) 9 (.int .i64 (Int.tmod (i64.wrap a2) (20:Int)))) 10 (v1235)) 11 (.int .i64 (Int.tmod (i64.wrap a0) (5:Int)))) 12 (.int .u64 z1726)) ∧ I1727.le I1943 ∧ St w0 w I1943 [at_lane_State v1235 z1942] R) ?_ ?_
 {
 have hL1948 := HL.le.refl I1727
 refine wp_seq (wrl (wv (.int .i64 (0:Int)) z z z (wl_nil (tn (wp_block ?_)))))
 obtain ⟨n1871, hm⟩ := loopO_some hm
 refine wp_loop_n (fun n a w => ∃ (I1869 : HL) (z1867 : lane_State) (z1868 : Int) (σ1870 : Nat → Value), loopN (law16_LaneQuotas_l3 a1 z1726 a3 a0) n (z1867, z1868) = some y1946 ∧ a = Fr 162 (upd (upd (upd (upd (upd (upd (upd σ1870 1 (.int .u8 a1)) 3 (r3_0)) 9 (.int .i64 (Int.tmod (i64.wrap a2) (20:Int)))) 10 (v1235)) 11 (.int .i64 (Int.tmod (i64.wrap a0) (5:Int)))) 12 (.int .u64 z1726)) 13 (.int .i64 z1868)) ∧ I1727.le I1869 ∧ St w0 w I1869 [at_lane_State v1235 z1867] R) n1871 ⟨_, z1725, (0:Int), _, hm, (fu 1 (.int .u8 a1) z (fu 3 r3_0 z (fu 9 (.int .i64 (Int.tmod (i64.wrap a2) (20:Int))) z (fu 10 v1235 z (fu 11 (.int .i64 (Int.tmod (i64.wrap a0) (5:Int))) z (fu 12 (.int .u64 z1726) z (fu 13 (.int .i64 (0:Int)) z z))))))), (HL.le.refl _), hst⟩ ?_
 rintro n1877 _ w1872 ⟨I1869, z1867, z1868, σ1870, hm, rfl, hL1873, hst⟩
 obtain ⟨n1874, y1875, rfl, hm, hx1876⟩ := loopN_some hm
 dsimp only [law16_LaneQuotas_l3] at hm
 replace f3_0 := f3_0.mono (ro_le hL1873)
 replace hI0 := hI0.trans hL1873
 replace hL1985 := hL1985.trans hL1873
 replace hL1731 := hL1731.trans hL1873
 replace hL1948 := hL1948.trans hL1873
 refine wp_seq (wp_seq (wrl (wv (.int .i64 z1868) z z z (wv (.int .u8 a1) z z z (wv (.int .i64 (i64.wrap a1)) z z (by kernel_rfl) (wv (.int .i64 (Int.tmod (i64.wrap a1) (8:Int))) z z (x_rem (by decide) z z) (wv (.bool (decide (z1868 < (Int.tmod (i64.wrap a1) (8:Int))))) z z z (wl_nil (tn ?_)))))))))
 refine bsplit (decide (z1868 < (Int.tmod (i64.wrap a1) (8:Int)))) (fun hc1878 => ?_) (fun hc1878 => ?_)
 {
 replace hm := bif_t hc1878 hm
 refine wp_ift (cvb hc1878) ?_
 refine wp_skip (tn (wp_seq (wp_block (wp_seq (wrl ?_)))))
 refine wv (.int .u64 z1726) z z z (wv (.int .i64 z1868) z z z (wv (.int .i64 (i64.wrap (z1868 + (1:Int)))) z z z (wv (.int .u64 (u64.wrap (i64.wrap (z1868 + (1:Int))))) z z (by kernel_rfl) (wv (.agg #[U6 z1726, U6 (u64.wrap (i64.wrap (z1868 + (1:Int))))]) z z (by kernel_rfl) ?_))))
 obtain ⟨b1879, w1880, ew1881, eb1882, hst⟩ := hst.box [Zu, Zu] 28
 refine wl_run (v := Pt b1879 0) (w' := w1880) z z (x_al (by kernel_rfl) ew1881 eb1882) ?_
 obtain ⟨w1884, hr1885, hst⟩ := hst.bx [U6 z1726, U6 (u64.wrap (i64.wrap (z1868 + (1:Int))))] sizeOf28 z (oC z (oC z oN)) (by kernel_rfl)
 refine wl_unit z z (x_unit hr1885) ?_
 refine wl_nil (tn (wp_seq (wrl (wv (v1235) z z z (wv (.int .u64 z1726) z z z (wv (.int .u64 (u64.wrap (z1726 * (100:Int)))) z z z (wv (.int .i64 z1868) z z z (wv (.int .u64 (u64.wrap z1868)) z z (by kernel_rfl) (wv (.int .u64 (u64.wrap ((u64.wrap (z1726 * (100:Int))) + (u64.wrap z1868)))) z z z (wv (.agg #[U6 z1726, U6 (u64.wrap (i64.wrap (z1868 + (1:Int))))]) z z (x_loadN (cs := [U6 z1726, U6 (u64.wrap (i64.wrap (z1868 + (1:Int))))]) z isAgg28 sizeOf28 (hst.bcs0 0 z)) (wv (.int .u64 z1726) z z z (wv (.int .i64 (Int.tmod (i64.wrap a0) (5:Int))) z z z (wv (.agg #[U6 (3:Int), Zi, I6 (1:Int), Zf, Zf, Zu, I6 (Int.tmod (i64.wrap a0) (5:Int))]) z z (by kernel_rfl) (wv (r3_0) z z z (wv (.agg #[F6 (4611686018427387904:Nat), .bool false, r3_0]) z z (by obtain ⟨_, _, hv_, _⟩ := (ro_sliceV f3_0); rw [hv_]; kernel_rfl) ?_)))))))))))))))
 obtain ⟨b1888, w1889, ew1890, eb1891, hst⟩ := hst.lits (E := ty_api_Write) (xs := [({ At := (4611686018427387904:Nat), Del := false, Val := a3 } : api_Write)]) [[F6 (4611686018427387904:Nat), .bool false, r3_0]] 41 1 z (Reps.cons ⟨_, z, f3_0, one_of_sliceV (ro_sliceV f3_0)⟩ Reps.nil)
 refine wl_run (v := (.slice (some ⟨b1888, 0, none⟩) 1 1)) (w' := w1889) z z (x_als (by kernel_rfl) ew1890 eb1891) ?_
 refine wv (.agg #[U1 (7:Int), U6 z1726, U6 (u64.wrap (i64.wrap (z1868 + (1:Int)))), U6 z1726, Zu, Zi, Zu, Zu, Zu, Zs, Zs, Zs, Zs, (.slice (some ⟨b1888, 0, none⟩) 1 1), Zi, Zu, Zu, Zs, Zs, Zu, Zs, U6 (3:Int), Zi, I6 (1:Int), Zf, Zf, Zu, I6 (Int.tmod (i64.wrap a0) (5:Int)), .bool false]) z z (by kernel_rfl) ?_
 replace hst := hst.pull2
 replace hst := objO_some hst
 have f1901 : Ro tyF64 I1869 (.slice none 0 0) [] := ro_nil
 have f1902 : Ro tyF2 I1869 (.slice none 0 0) [] := ro_nil
 have f1903 : Ro tyF64 I1869 (.slice none 0 0) [] := ro_nil
 have f1904 : Ro (tyInt .u8) I1869 (.slice none 0 0) [] := ro_nil
 replace hst := hst.pull1
 obtain ⟨I1905, hI1906, f1907, hst⟩ := hst.own_fix
 replace f3_0 := f3_0.mono (ro_le hI1906)
 replace f1901 := f1901.mono (ro_le hI1906)
 replace f1902 := f1902.mono (ro_le hI1906)
 replace f1903 := f1903.mono (ro_le hI1906)
 replace f1904 := f1904.mono (ro_le hI1906)
 replace hI0 := hI0.trans hI1906
 replace hL1985 := hL1985.trans hI1906
 replace hL1731 := hL1731.trans hI1906
 replace hL1948 := hL1948.trans hI1906
 replace hL1873 := hL1873.trans hI1906
 have f1908 : Ro ty_api_Got I1905 (.slice none 0 0) [] := ro_nil
 have f1909 : Ro (tySl ty_api_Pair) I1905 (.slice none 0 0) [] := ro_nil
 have f1910 : Ro ty_api_Part I1905 (.slice none 0 0) [] := ro_nil
 obtain ⟨t1911, ht1912, hm⟩ := bind_some hm
 refine wc call14 [v1235, U6 (u64.wrap ((u64.wrap (z1726 * (100:Int))) + (u64.wrap z1868))), .agg #[U1 (7:Int), U6 z1726, U6 (u64.wrap (i64.wrap (z1868 + (1:Int)))), U6 z1726, Zu, Zi, Zu, Zu, Zu, Zs, Zs, Zs, Zs, (.slice (some ⟨b1888, 0, none⟩) 1 1), Zi, Zu, Zu, Zs, Zs, Zu, Zs, U6 (3:Int), Zi, I6 (1:Int), Zf, Zf, Zu, I6 (Int.tmod (i64.wrap a0) (5:Int)), .bool false]] z z z ?_
 refine (lane_State_Apply_ref (a2 := ({ Kind := (7:Int), ID := ({ Session := z1726, Seq := (u64.wrap (i64.wrap (z1868 + (1:Int)))) } : api_ID), Epoch := z1726, Index := (0:Int), E := (0:Int), Hold := zero_api_Hold, Writes := [({ At := (4611686018427387904:Nat), Del := false, Val := a3 } : api_Write)], R := zero_api_Reply, Shards := (0:Int), Parts := [], Rule := ({ ID := (3:Int), From := (0:Int), To := (1:Int), Lo := (0:Nat), Hi := (0:Nat), Authority := (0:Int), Quota := (Int.tmod (i64.wrap a0) (5:Int)) } : api_Rule), On := false } : api_Command)) f1901 f1902 f1903 f1904 f1907 f1908 f1909 f1910 hst.to1 ht1912).mono ?_
 rintro _ w1913 ⟨I1914, v1916, v1919, rfl, hI1915, f1918, f1921, hst⟩
 refine ⟨_, z, ?_⟩
 replace hst := hst.of1
 replace f3_0 := f3_0.mono (ro_le hI1915)
 replace f1901 := f1901.mono (ro_le hI1915)
 replace f1902 := f1902.mono (ro_le hI1915)
 replace f1903 := f1903.mono (ro_le hI1915)
 replace f1904 := f1904.mono (ro_le hI1915)
 replace f1907 := f1907.mono (ro_le hI1915)
 replace f1908 := f1908.mono (ro_le hI1915)
 replace f1909 := f1909.mono (ro_le hI1915)
 replace f1910 := f1910.mono (ro_le hI1915)
 replace hI0 := hI0.trans hI1915
 replace hL1985 := hL1985.trans hI1915
 replace hL1731 := hL1731.trans hI1915
 replace hL1948 := hL1948.trans hI1915
 replace hL1873 := hL1873.trans hI1915
 rcases he1923 : t1911.2 with _ | y1922
 · rw [he1923] at hm; cases hm
 rw [he1923] at hm hst; dsimp only at hm; replace hst := objO_get hst
 obtain ⟨b1926, w1927, ew1928, eb1929, hst⟩ := hst.box [Zb, Zu, Zu, Zi, Zu, Zu, Zs, Zs] 35
 refine wl_run (v := Pt b1926 0) (w' := w1927) z z (x_al (by kernel_rfl) ew1928 eb1929) ?_
 obtain ⟨w1931, hr1932, hst⟩ := hst.bx [U1 t1911.1.Kind, U6 t1911.1.ID.Session, U6 t1911.1.ID.Seq, I6 t1911.1.R.E, U6 t1911.1.R.Epoch, U6 t1911.1.R.Index, v1916, v1919] sizeOf35 z (oC z (oC z (oC z (oC z (oC z (oC z (oC (one_of_sliceV (ro_sliceV f1918)) (oC (one_of_sliceV (ro_sliceV f1921)) oN)))))))) (by kernel_rfl)
 refine wl_unit z z (x_unit hr1932) ?_
 refine wl_nil (tn (wp_seq (wrl (wv (.int .i64 (0:Int)) z z z (wl_nil (tn ?_))))))
 obtain ⟨y1937, hm, hx1938⟩ := bind_some hm
 refine wp_cut (fun a w => ∃ (z1934 : Int) (σ1935 : Nat → Value), (law16_LaneQuotas_j4 t1911 y1922 z1868) z1934 = some y1875 ∧ a = Fr 162 (upd (upd (upd (upd (upd (upd (upd (upd (upd σ1935 1 (.int .u8 a1)) 3 (r3_0)) 9 (.int .i64 (Int.tmod (i64.wrap a2) (20:Int)))) 10 (v1235)) 11 (.int .i64 (Int.tmod (i64.wrap a0) (5:Int)))) 12 (.int .u64 z1726)) 13 (.int .i64 z1868)) 15 (Pt b1926 0)) 16 (.int .i64 z1934)) ∧ St w0 w I1914 [at_lane_State v1235 y1922, cells b1926 [U1 t1911.1.Kind, U6 t1911.1.ID.Session, U6 t1911.1.ID.Seq, I6 t1911.1.R.E, U6 t1911.1.R.Epoch, U6 t1911.1.R.Index, v1916, v1919]] R) ?_ ?_
 {
 refine wp_seq (wrl (wv (.int .i64 z1868) z z z (wv (.int .i64 (Int.tmod (i64.wrap a0) (5:Int))) z z z (wv (.bool (decide (z1868 ≥ (Int.tmod (i64.wrap a0) (5:Int))))) z z z (wl_nil (tn ?_))))))
 refine bsplit (decide (z1868 ≥ (Int.tmod (i64.wrap a0) (5:Int)))) (fun hc1933 => ?_) (fun hc1933 => ?_)
 {
 replace hm := bif_t hc1933 hm
 refine wp_ift (cvb hc1933) ?_
 refine wrl (wv (.int .i64 (13:Int)) z z z (wl_nil (tn ?_)))
 replace hst := hst.pull1.keep2
 obtain rfl := some_inj hm
 exact ⟨(13:Int), _, hx1938, (fu 1 (.int .u8 a1) z (fu 3 r3_0 z (fu 9 (.int .i64 (Int.tmod (i64.wrap a2) (20:Int))) z (fu 10 v1235 z (fu 11 (.int .i64 (Int.tmod (i64.wrap a0) (5:Int))) z (fu 12 (.int .u64 z1726) z (fu 13 (.int .i64 z1868) z (fu 15 (Pt b1926 0) z (fu 16 (.int .i64 (13:Int)) z z))))))))), hst⟩
}
 {
 replace hm := bif_f hc1933 hm
 refine wp_iff (cvb hc1933) ?_
 refine wp_skip (tn ?_)
 replace hst := hst.pull1.keep2
 obtain rfl := some_inj hm
 exact ⟨(0:Int), _, hx1938, (fu 1 (.int .u8 a1) z (fu 3 r3_0 z (fu 9 (.int .i64 (Int.tmod (i64.wrap a2) (20:Int))) z (fu 10 v1235 z (fu 11 (.int .i64 (Int.tmod (i64.wrap a0) (5:Int))) z (fu 12 (.int .u64 z1726) z (fu 13 (.int .i64 z1868) z (fu 15 (Pt b1926 0) z (fu 16 (.int .i64 (0:Int)) z z))))))))), hst⟩
}
}
 {
 clear hst
 rintro _ w1939 ⟨z1934, σ1935, hm, rfl, hst⟩
 dsimp only [law16_LaneQuotas_j4] at hm
 refine wp_seq (wrl (wv (Pt b1926 0) z z (x_field z underlying35 z sizeOf5 z) (wv (.int .u8 t1911.1.Kind) z z (x_load z isAgg5 (hst.bc1 z)) (wv (.bool (t1911.1.Kind != (4:Int))) z z z (wv (.bool (t1911.1.Kind != (4:Int))) z z z ?_)))))
 refine bsplit (t1911.1.Kind != (4:Int)) (fun hc1940 => ?_) (fun hc1940 => ?_)
 {
 replace hm := bif_t hc1940 hm
 refine wo hc1940 z z z z z z (wo hc1940 z z z z z z (wo hc1940 z z z z z z (wo hc1940 z z z z z z (wo hc1940 z z z z z z (wv (.bool true) z z (x_pick_t hc1940 z z) (wl_nil (tn ?_)))))))
 refine wp_ift z ?_
 refine wp_seq (wrl (wv (.bool false) z z z (wl_nil (tn (wp_ret (blk_r (then_r (then_r ?_))))))))
 replace hm := inr_up hm hx1876
 refine blk_r (then_r ?_)
 replace hm := inr_up hm hx1947
 refine blk_r (then_r (then_r ?_))
 replace hm := inr_up hm hx1734
 refine blk_r (then_r ?_)
 replace hm := inr_up hm hx1984
 obtain rfl := some_inj hm
 refine post_ret (vs := [.bool false]) results3 (rvs_cons (rv_tmp z) rvs_nil) ?_
 exact ⟨_, z, hI0, hst.keep0⟩
}
 {
 replace hm := bif_f hc1940 hm
 refine wv (Pt b1926 3) ((wanted_eq z z z (cvb hc1940)).trans z) z (x_field z underlying35 z sizeOf33 z) (wv (Pt b1926 3) ((wanted_eq z z z (cvb hc1940)).trans z) z (x_field z underlying33 z sizeOf29 z) (wv (.int .i64 t1911.1.R.E) ((wanted_eq z z z (cvb hc1940)).trans z) z (x_load z isAgg29 (hst.bc1 z)) (wv (.int .i64 z1934) ((wanted_eq z z z (cvb hc1940)).trans z) z z (wv (.bool (t1911.1.R.E != z1934)) ((wanted_eq z z z (cvb hc1940)).trans z) z z (wv (.bool (t1911.1.R.E != z1934)) z z (x_pick_f hc1940 z z) (wl_nil (tn ?_)))))))
 refine bsplit (t1911.1.R.E != z1934) (fun hc1941 => ?_) (fun hc1941 => ?_)
 {
 replace hm := bif_t hc1941 hm
 refine wp_ift (cvb hc1941) ?_
 refine wp_seq (wrl (wv (.bool false) z z z (wl_nil (tn (wp_ret (blk_r (then_r (then_r ?_))))))))
 replace hm := inr_up hm hx1876
 refine blk_r (then_r ?_)
 replace hm := inr_up hm hx1947
 refine blk_r (then_r (then_r ?_))
 replace hm := inr_up hm hx1734
 refine blk_r (then_r ?_)
 replace hm := inr_up hm hx1984
 obtain rfl := some_inj hm
 refine post_ret (vs := [.bool false]) results3 (rvs_cons (rv_tmp z) rvs_nil) ?_
 exact ⟨_, z, hI0, hst.keep0⟩
}
 {
 replace hm := bif_f hc1941 hm
 refine wp_iff (cvb hc1941) ?_
 refine wp_skip (blk_n (tn (wrl ?_)))
 refine wv (.int .i64 z1868) z z z (wv (.int .i64 (i64.wrap (z1868 + (1:Int)))) z z z (wv (.int .i64 (i64.wrap (z1868 + (1:Int)))) z z z (wl_nil (tn ?_))))
 replace hst := hst.keep1
 obtain rfl := some_inj hm
 exact ⟨_, Nat.lt_succ_self _, _, y1922, (i64.wrap (z1868 + (1:Int))), _, hx1876, (fu 1 (.int .u8 a1) z (fu 3 r3_0 z (fu 9 (.int .i64 (Int.tmod (i64.wrap a2) (20:Int))) z (fu 10 v1235 z (fu 11 (.int .i64 (Int.tmod (i64.wrap a0) (5:Int))) z (fu 12 (.int .u64 z1726) z (fu 13 (.int .i64 (i64.wrap (z1868 + (1:Int)))) z z))))))), hL1873, hst⟩
}
}
}
}
 {
 replace hm := bif_f hc1878 hm
 refine wp_iff (cvb hc1878) ?_
 refine wp_exit (then_x (then_x ?_))
 replace hm := inr_up hm hx1876
 refine blk_x (tn ?_)
 replace hst := hst.keep1
 obtain rfl := some_inj hm
 exact ⟨_, z1867, _, hx1947, (fu 1 (.int .u8 a1) z (fu 3 r3_0 z (fu 9 (.int .i64 (Int.tmod (i64.wrap a2) (20:Int))) z (fu 10 v1235 z (fu 11 (.int .i64 (Int.tmod (i64.wrap a0) (5:Int))) z (fu 12 (.int .u64 z1726) z z)))))), hL1948, hst⟩
}
}
 {
 clear hst
 rintro _ w1949 ⟨I1943, z1942, σ1944, hm, rfl, hL1945, hst⟩
 dsimp only [law16_LaneQuotas_j2] at hm
 replace f3_0 := f3_0.mono (ro_le hL1945)
 replace hI0 := hI0.trans hL1945
 replace hL1985 := hL1985.trans hL1945
 replace hL1731 := hL1731.trans hL1945
 refine wrl (wv (v1235) z z z (wv (.int .u64 z1726) z z z (wv (.int .u64 (u64.wrap (z1726 * (100:Int)))) z z z (wv (.int .u64 (u64.wrap ((u64.wrap (z1726 * (100:Int))) + (50:Int)))) z z z (wv (.int .u64 z1726) z z z (wv (.agg #[U1 (1:Int), Zu, Zu, U6 z1726, Zu, Zi, Zu, Zu, Zu, Zs, Zs, Zs, Zs, Zs, Zi, Zu, Zu, Zs, Zs, Zu, Zs, Zu, Zi, Zi, Zf, Zf, Zu, Zi, .bool false]) z z (by kernel_rfl) ?_))))))
 replace hst := objO_some hst
 have f1958 : Ro tyF64 I1943 (.slice none 0 0) [] := ro_nil
 have f1959 : Ro tyF2 I1943 (.slice none 0 0) [] := ro_nil
 have f1960 : Ro tyF64 I1943 (.slice none 0 0) [] := ro_nil
 have f1961 : Ro (tyInt .u8) I1943 (.slice none 0 0) [] := ro_nil
 have f1962 : Ro ty_api_Write I1943 (.slice none 0 0) [] := ro_nil
 have f1963 : Ro ty_api_Got I1943 (.slice none 0 0) [] := ro_nil
 have f1964 : Ro (tySl ty_api_Pair) I1943 (.slice none 0 0) [] := ro_nil
 have f1965 : Ro ty_api_Part I1943 (.slice none 0 0) [] := ro_nil
 obtain ⟨t1966, ht1967, hm⟩ := bind_some hm
 refine wc call14 [v1235, U6 (u64.wrap ((u64.wrap (z1726 * (100:Int))) + (50:Int))), .agg #[U1 (1:Int), Zu, Zu, U6 z1726, Zu, Zi, Zu, Zu, Zu, Zs, Zs, Zs, Zs, Zs, Zi, Zu, Zu, Zs, Zs, Zu, Zs, Zu, Zi, Zi, Zf, Zf, Zu, Zi, .bool false]] z z z ?_
 refine (lane_State_Apply_ref (a2 := ({ Kind := (1:Int), ID := ({ Session := (0:Int), Seq := (0:Int) } : api_ID), Epoch := z1726, Index := (0:Int), E := (0:Int), Hold := zero_api_Hold, Writes := [], R := zero_api_Reply, Shards := (0:Int), Parts := [], Rule := zero_api_Rule, On := false } : api_Command)) f1958 f1959 f1960 f1961 f1962 f1963 f1964 f1965 hst.to1 ht1967).mono ?_
 rintro _ w1968 ⟨I1969, v1971, v1974, rfl, hI1970, f1973, f1976, hst⟩
 refine ⟨_, z, ?_⟩
 replace hst := hst.of1
 replace f3_0 := f3_0.mono (ro_le hI1970)
 replace f1958 := f1958.mono (ro_le hI1970)
 replace f1959 := f1959.mono (ro_le hI1970)
 replace f1960 := f1960.mono (ro_le hI1970)
 replace f1961 := f1961.mono (ro_le hI1970)
 replace f1962 := f1962.mono (ro_le hI1970)
 replace f1963 := f1963.mono (ro_le hI1970)
 replace f1964 := f1964.mono (ro_le hI1970)
 replace f1965 := f1965.mono (ro_le hI1970)
 replace hI0 := hI0.trans hI1970
 replace hL1985 := hL1985.trans hI1970
 replace hL1731 := hL1731.trans hI1970
 rcases he1978 : t1966.2 with _ | y1977
 · rw [he1978] at hm; cases hm
 rw [he1978] at hm hst; dsimp only at hm; replace hst := objO_get hst
 refine wl_nil (blk_n (tn (wrl (wv (.int .u64 z1726) z z z (wv (.int .u64 (u64.wrap (z1726 + (1:Int)))) z z z (wv (.int .u64 (u64.wrap (z1726 + (1:Int)))) z z z (wl_nil (tn ?_))))))))
 replace hst := hst.keep1
 obtain rfl := some_inj hm
 exact ⟨_, Nat.lt_succ_self _, _, y1977, (u64.wrap (z1726 + (1:Int))), _, hx1734, (fu 1 (.int .u8 a1) z (fu 3 r3_0 z (fu 9 (.int .i64 (Int.tmod (i64.wrap a2) (20:Int))) z (fu 10 v1235 z (fu 11 (.int .i64 (Int.tmod (i64.wrap a0) (5:Int))) z (fu 12 (.int .u64 (u64.wrap (z1726 + (1:Int)))) z z)))))), hL1731, hst⟩
}
}
 {
 replace hm := bif_f hc1736 hm
 refine wp_iff (cvb hc1736) ?_
 refine wp_exit (then_x (then_x ?_))
 replace hm := inr_up hm hx1734
 refine blk_x (tn ?_)
 replace hst := hst.keep1
 obtain rfl := some_inj hm
 exact ⟨_, z1725, _, hx1984, (fu 1 (.int .u8 a1) z (fu 3 r3_0 z (fu 9 (.int .i64 (Int.tmod (i64.wrap a2) (20:Int))) z (fu 10 v1235 z (fu 11 (.int .i64 (Int.tmod (i64.wrap a0) (5:Int))) z z))))), hL1985, hst⟩
}
}
 {
 clear hst
 rintro _ w1986 ⟨I1980, z1979, σ1981, hm, rfl, hL1982, hst⟩
 dsimp only [law16_LaneQuotas_j0] at hm
 replace f3_0 := f3_0.mono (ro_le hL1982)
 replace hI0 := hI0.trans hL1982
 refine wp_seq (wrl (wv (.int .u8 a1) z z z (wv (.int .i64 (i64.wrap a1)) z z (by kernel_rfl) (wv (.int .i64 (Int.tmod (i64.wrap a1) (8:Int))) z z (x_rem (by decide) z z) (wv (.int .i64 (Int.tmod (i64.wrap a1) (8:Int))) z z z (wl_nil (tn ?_)))))))
 obtain ⟨y1991, hm, hx1992⟩ := bind_some hm
 refine wp_cut (fun a w => ∃ (z1988 : Int) (σ1989 : Nat → Value), (law16_LaneQuotas_j5 z1979 a2 a3) z1988 = some r ∧ a = Fr 162 (upd (upd (upd (upd σ1989 3 (r3_0)) 9 (.int .i64 (Int.tmod (i64.wrap a2) (20:Int)))) 10 (v1235)) 17 (.int .i64 z1988)) ∧ St w0 w I1980 [at_lane_State v1235 z1979] R) ?_ ?_
 {
 refine wp_seq (wrl (wv (.int .i64 (Int.tmod (i64.wrap a1) (8:Int))) z z z (wv (.int .i64 (Int.tmod (i64.wrap a0) (5:Int))) z z z (wv (.bool (decide ((Int.tmod (i64.wrap a1) (8:Int)) > (Int.tmod (i64.wrap a0) (5:Int))))) z z z (wl_nil (tn ?_))))))
 refine bsplit (decide ((Int.tmod (i64.wrap a1) (8:Int)) > (Int.tmod (i64.wrap a0) (5:Int)))) (fun hc1987 => ?_) (fun hc1987 => ?_)
 {
 replace hm := bif_t hc1987 hm
 refine wp_ift (cvb hc1987) ?_
 refine wrl (wv (.int .i64 (Int.tmod (i64.wrap a0) (5:Int))) z z z (wv (.int .i64 (Int.tmod (i64.wrap a0) (5:Int))) z z z (wl_nil (tn ?_))))
 replace hst := hst.keep1
 obtain rfl := some_inj hm
 exact ⟨(Int.tmod (i64.wrap a0) (5:Int)), _, hx1992, (fu 3 r3_0 z (fu 9 (.int .i64 (Int.tmod (i64.wrap a2) (20:Int))) z (fu 10 v1235 z (fu 17 (.int .i64 (Int.tmod (i64.wrap a0) (5:Int))) z z)))), hst⟩
}
 {
 replace hm := bif_f hc1987 hm
 refine wp_iff (cvb hc1987) ?_
 refine wp_skip (tn ?_)
 replace hst := hst.keep1
 obtain rfl := some_inj hm
 exact ⟨(Int.tmod (i64.wrap a1) (8:Int)), _, hx1992, (fu 3 r3_0 z (fu 9 (.int .i64 (Int.tmod (i64.wrap a2) (20:Int))) z (fu 10 v1235 z (fu 17 (.int .i64 (Int.tmod (i64.wrap a1) (8:Int))) z z)))), hst⟩
}
}
 {
 clear hst
 rintro _ w1993 ⟨z1988, σ1989, hm, rfl, hst⟩
 dsimp only [law16_LaneQuotas_j5] at hm
 refine wp_seq (wrl (wv (v1235) z z z ?_))
 obtain ⟨y2159, hq2160, hm⟩ := bind_some hm
 refine wl_call z z (x_callv call15 (caps := []) z (vs := [v1235, I6 (1:Int)]) z) ?_
 refine Calls.mono (show Calls prog 15 #[v1235, I6 (1:Int)] _ (fun e w' => ∃ (z2157 : (List api_Item)) (v2156 : Value), z2157 = y2159 ∧ e = .returned (v2156) ∧ St w0 w' I1980 [ownS ty_api_Item v2156 z2157, at_lane_State v1235 z1979] R) from ?_) ?_
 {
 clear hm; have hm := hq2160
 refine calls_start (args := [v1235, I6 (1:Int)]) func15 z ntmps15 (Nat.le_of_ble_eq_true z) ?_
 refine wp_seq (wrl (wv ((.slice none 0 0)) z z z (wl_nil (tn (wp_seq (wrl (wv ((.slice none 0 0)) z z z (wl_nil (tn (wp_seq (wp_seq (wrl (wv (v1235) z z z ?_)))))))))))))
 obtain ⟨b1996, v1997, v1999, v2001, v2003, v2005, v2007, v2009, rfl, hst'⟩ := at_lane_State_open hst
 clear hst
 have hst := hst'
 clear hst'
 refine wv (.bool false) z z (by kernel_rfl) (wl_nil (tn ?_))
 refine wp_iff z ?_
 refine wp_skip (tn (wp_seq (wp_seq (wrl ?_))))
 refine wv (Pt b1996 0) z z z (wv (Pt b1996 0) z z z (wv (Pt b1996 7) z z (x_field z underlying111 z sizeOf50 z) (wv (v2007) z z (x_load z isAgg50 (hst.bc0 z)) (wv (.int .i64 ((z1979.out).length : Int)) z z (x_len z underlying50 hst.sv6) (wv (.int .i64 (0:Int)) z z z (wl_nil (tn (wp_block ?_))))))))
 replace hst := hst.own_nil ty_api_Item
 obtain ⟨n2116, hm⟩ := loopO_some hm
 refine wp_loop_n (fun n a w => ∃ (z2111 : Int) (z2112 : (List api_Item)) (v2113 : Value) (σ2115 : Nat → Value), loopN (law16_LaneQuotas_l6 z1979) n (z2111, z2112) = some y2159 ∧ a = Fr 30 (upd (upd (upd (upd (upd σ2115 1 (.int .i64 (1:Int))) 5 (v2113)) 14 (v2007)) 15 (.int .i64 ((z1979.out).length : Int))) 16 (.int .i64 z2111)) ∧ St w0 w I1980 [ownS ty_api_Item v2113 z2112, cells b1996 [I6 z1979.wide, U6 z1979.epoch, v1997, v1999, v2001, v2003, v2005, v2007, v2009], objO at_mvcc_Store v1997 z1979.store, objO at_locks_Table v1999 z1979.locks, objO at_session_Table v2001 z1979.last, objO at_policy_Book v2003 z1979.book, ownS ty_api_Decision v2005 z1979.open_, ownS ty_api_Item v2007 z1979.out, ownS ty_lane_used v2009 z1979.used] R) n2116 ⟨(0:Int), [], Zs, _, hm, (fu 1 (.int .i64 (1:Int)) z (fu 5 (.slice none 0 0) z (fu 14 v2007 z (fu 15 (.int .i64 ((z1979.out).length : Int)) z (fu 16 (.int .i64 (0:Int)) z z))))), hst⟩ ?_
 rintro n2122 _ w2117 ⟨z2111, z2112, v2113, σ2115, hm, rfl, hst⟩
 obtain ⟨n2119, y2120, rfl, hm, hx2121⟩ := loopN_some hm
 dsimp only [law16_LaneQuotas_l6] at hm
 refine wp_seq (wrl (wv (.bool (decide (z2111 < ((z1979.out).length : Int)))) z z z (wl_nil (tn (wp_seq ?_)))))
 refine bsplit (decide (z2111 < ((z1979.out).length : Int))) (fun hc2123 => ?_) (fun hc2123 => ?_)
 {
 replace hm := bif_t hc2123 hm
 refine wp_ift (cvb hc2123) ?_
 refine wp_skip (tn (wp_seq (wp_block (wp_seq (wrl ?_)))))
 obtain ⟨x2124, hx2125, hm⟩ := bind_some hm
 obtain ⟨h2126, h2127, hi2128⟩ := geto_some hx2125
 refine wv (.pointer (some (eAddr v2007 (z2111.toNat * 7 + 0)))) z z (x_index z z underlying50 sizeOf53 hst.sv7 h2126 h2127) ?_
 obtain ⟨cs2129, hr2130, hc2131⟩ := hst.og7 hi2128
 obtain ⟨v2132, rfl, f2133, -⟩ := hr2130
 refine wv (.agg #[I6 x2124.To, U6 x2124.N, U6 x2124.Rule, U6 x2124.Epoch, F6 x2124.W.At, .bool x2124.W.Del, v2132]) z z (x_loadN (cs := [I6 x2124.To, U6 x2124.N, U6 x2124.Rule, U6 x2124.Epoch, F6 x2124.W.At, .bool x2124.W.Del, v2132]) z isAgg53 sizeOf53 (eCells (o := 0) hc2131 z)) ?_
 obtain ⟨b2136, w2137, ew2138, eb2139, hst⟩ := hst.box [Zi, Zu, Zu, Zu, Zf, .bool false, Zs] 53
 refine wl_run (v := Pt b2136 0) (w' := w2137) z z (x_al (by kernel_rfl) ew2138 eb2139) ?_
 obtain ⟨w2141, hr2142, hst⟩ := hst.bx [I6 x2124.To, U6 x2124.N, U6 x2124.Rule, U6 x2124.Epoch, F6 x2124.W.At, .bool x2124.W.Del, v2132] sizeOf53 z (oC z (oC z (oC z (oC z (oC z (oC z (oC (one_of_sliceV (ro_sliceV f2133)) oN))))))) (by kernel_rfl)
 refine wl_unit z z (x_unit hr2142) ?_
 refine wl_nil (tn (wp_seq (wrl (wv (Pt b2136 0) z z (x_field z underlying53 z sizeOf3 z) (wv (.int .i64 x2124.To) z z (x_load z isAgg3 (hst.bc0 z)) (wv (.int .i64 (1:Int)) z z z (wv (.bool (x2124.To == (1:Int))) z z z (wl_nil (tn ?_)))))))))
 refine bsplit (x2124.To == (1:Int)) (fun hc2143 => ?_) (fun hc2143 => ?_)
 {
 replace hm := bif_t hc2143 hm
 refine wp_ift (cvb hc2143) ?_
 refine wrl (wv (v2113) z z z (wv (.agg #[I6 x2124.To, U6 x2124.N, U6 x2124.Rule, U6 x2124.Epoch, F6 x2124.W.At, .bool x2124.W.Del, v2132]) z z (x_loadN (cs := [I6 x2124.To, U6 x2124.N, U6 x2124.Rule, U6 x2124.Epoch, F6 x2124.W.At, .bool x2124.W.Del, v2132]) z isAgg53 sizeOf53 (hst.bcs0 0 z)) ?_))
 obtain ⟨b2145, w2146, ew2147, eb2148, hst⟩ := hst.lits (E := ty_api_Item) (xs := [x2124]) [[I6 x2124.To, U6 x2124.N, U6 x2124.Rule, U6 x2124.Epoch, F6 x2124.W.At, .bool x2124.W.Del, v2132]] 53 1 z (Reps.cons ⟨_, z, f2133, one_of_sliceV (ro_sliceV f2133)⟩ Reps.nil)
 refine wl_run (v := (.slice (some ⟨b2145, 0, none⟩) 1 1)) (w' := w2146) z z (x_als (by kernel_rfl) ew2147 eb2148) ?_
 obtain ⟨hg2150, hm⟩ := gd_some hm
 replace hst := hst.pull2
 obtain ⟨v2151, w2152, hr2153, hst⟩ := run_append elem_50 underlying50 hst hst.src1 (room_of hg2150 z) 50
 refine wl_run (v := v2151) (w' := w2152) z z (x_append z z hr2153) ?_
 refine wv (v2151) z z z (wl_nil (blk_n (tn (wrl (wv (.int .i64 (i64.wrap (z2111 + (1:Int)))) z z z (wv (.int .i64 (i64.wrap (z2111 + (1:Int)))) z z z (wl_nil (tn ?_))))))))
 replace hst := hst.pull10.pull10.pull10.pull10.pull10.pull10.pull10.pull10.pull8.keep9
 obtain rfl := some_inj hm
 exact ⟨_, Nat.lt_succ_self _, (i64.wrap (z2111 + (1:Int))), (z2112 ++ ([x2124])), v2151, _, hx2121, (fu 1 (.int .i64 (1:Int)) z (fu 5 v2151 z (fu 14 v2007 z (fu 15 (.int .i64 ((z1979.out).length : Int)) z (fu 16 (.int .i64 (i64.wrap (z2111 + (1:Int)))) z z))))), hst⟩
}
 {
 replace hm := bif_f hc2143 hm
 refine wp_iff (cvb hc2143) ?_
 refine wp_skip (blk_n (tn (wrl ?_)))
 refine wv (.int .i64 (i64.wrap (z2111 + (1:Int)))) z z z (wv (.int .i64 (i64.wrap (z2111 + (1:Int)))) z z z (wl_nil (tn ?_)))
 replace hst := hst.pull9.pull9.pull9.pull9.pull9.pull9.pull9.pull9.pull9.keep9
 obtain rfl := some_inj hm
 exact ⟨_, Nat.lt_succ_self _, (i64.wrap (z2111 + (1:Int))), z2112, v2113, _, hx2121, (fu 1 (.int .i64 (1:Int)) z (fu 5 v2113 z (fu 14 v2007 z (fu 15 (.int .i64 ((z1979.out).length : Int)) z (fu 16 (.int .i64 (i64.wrap (z2111 + (1:Int)))) z z))))), hst⟩
}
}
 {
 replace hm := bif_f hc2123 hm
 refine wp_iff (cvb hc2123) ?_
 refine wp_exit (then_x (then_x ?_))
 replace hm := inr_up hm hx2121
 refine blk_x (tn (wp_seq (wrl ?_)))
 refine wv (v2113) z z z (wv (v2113) z z z (wl_nil (tn (wp_ret ?_))))
 refine post_ret (vs := [v2113]) results15 (rvs_cons (rv_tmp z) rvs_nil) ?_
 replace hst := hst.pull8.pull8.pull8.pull8.pull8.pull8.pull8.pull8
 replace hst := at_lane_State_close (pv := Pt b1996 0) (x := z1979) hst z
 replace hst := hst.pull1.keep2
 obtain rfl := some_inj hm
 exact ⟨z2112, v2113, z, z, hst⟩
}
}
 clear hst
 rintro _ w2161 ⟨z2157, v2156, rfl, rfl, hst⟩
 refine ⟨_, z, ?_⟩
 try dsimp only at hm
 refine wv (v2156) z z z (wl_nil (tn (wp_seq (wp_seq (wrl (wv (v2156) z z z (wv (.int .i64 ((z2157).length : Int)) z z (x_len z underlying50 hst.sv0) (wv (.int .i64 z1988) z z z (wv (.int .i64 (i64.wrap ((3:Int) * z1988))) z z z (wv (.bool (((z2157).length : Int) != (i64.wrap ((3:Int) * z1988)))) z z z (wv (.bool (((z2157).length : Int) != (i64.wrap ((3:Int) * z1988)))) z z z ?_)))))))))))
 refine bsplit (((z2157).length : Int) != (i64.wrap ((3:Int) * z1988))) (fun hc2162 => ?_) (fun hc2162 => ?_)
 {
 replace hm := bif_t hc2162 hm
 refine wo hc2162 z z z z z z (wo hc2162 z z z z z z (wo hc2162 z z z z z z (wo hc2162 z z z z z z (wv (.bool true) z z (x_pick_t hc2162 z z) (wl_nil (tn ?_))))))
 refine wp_ift z ?_
 refine wp_seq (wrl (wv (.bool false) z z z (wl_nil (tn (wp_ret (then_r ?_))))))
 obtain rfl := some_inj hm
 refine post_ret (vs := [.bool false]) results3 (rvs_cons (rv_tmp z) rvs_nil) ?_
 exact ⟨_, z, hI0, hst.keep0⟩
}
 {
 replace hm := bif_f hc2162 hm
 refine wv (v1235) ((wanted_eq z z z (cvb hc2162)).trans z) z z ?_
 obtain ⟨y2328, hq2329, hm⟩ := bind_some hm
 refine wl_call ((wanted_eq z z z (cvb hc2162)).trans z) z (x_callv call15 (caps := []) z (vs := [v1235, Zi]) z) ?_
 refine Calls.mono (show Calls prog 15 #[v1235, Zi] _ (fun e w' => ∃ (z2326 : (List api_Item)) (v2325 : Value), z2326 = y2328 ∧ e = .returned (v2325) ∧ St w0 w' I1980 [ownS ty_api_Item v2325 z2326, at_lane_State v1235 z1979, ownS ty_api_Item v2156 z2157] R) from ?_) ?_
 {
 clear hm; have hm := hq2329
 refine calls_start (args := [v1235, Zi]) func15 z ntmps15 (Nat.le_of_ble_eq_true z) ?_
 refine wp_seq (wrl (wv ((.slice none 0 0)) z z z (wl_nil (tn (wp_seq (wrl (wv ((.slice none 0 0)) z z z (wl_nil (tn (wp_seq (wp_seq (wrl (wv (v1235) z z z ?_)))))))))))))
 replace hst := hst.pull1
 obtain ⟨b2165, v2166, v2168, v2170, v2172, v2174, v2176, v2178, rfl, hst'⟩ := at_lane_State_open hst
 clear hst
 have hst := hst'
 clear hst'
 refine wv (.bool false) z z (by kernel_rfl) (wl_nil (tn ?_))
 refine wp_iff z ?_
 refine wp_skip (tn (wp_seq (wp_seq (wrl ?_))))
 refine wv (Pt b2165 0) z z z (wv (Pt b2165 0) z z z (wv (Pt b2165 7) z z (x_field z underlying111 z sizeOf50 z) (wv (v2176) z z (x_load z isAgg50 (hst.bc0 z)) (wv (.int .i64 ((z1979.out).length : Int)) z z (x_len z underlying50 hst.sv6) (wv (.int .i64 (0:Int)) z z z (wl_nil (tn (wp_block ?_))))))))
 replace hst := hst.own_nil ty_api_Item
 obtain ⟨n2285, hm⟩ := loopO_some hm
 refine wp_loop_n (fun n a w => ∃ (z2280 : Int) (z2281 : (List api_Item)) (v2282 : Value) (σ2284 : Nat → Value), loopN (law16_LaneQuotas_l7 z1979) n (z2280, z2281) = some y2328 ∧ a = Fr 30 (upd (upd (upd (upd (upd σ2284 1 (.int .i64 (0:Int))) 5 (v2282)) 14 (v2176)) 15 (.int .i64 ((z1979.out).length : Int))) 16 (.int .i64 z2280)) ∧ St w0 w I1980 [ownS ty_api_Item v2282 z2281, cells b2165 [I6 z1979.wide, U6 z1979.epoch, v2166, v2168, v2170, v2172, v2174, v2176, v2178], objO at_mvcc_Store v2166 z1979.store, objO at_locks_Table v2168 z1979.locks, objO at_session_Table v2170 z1979.last, objO at_policy_Book v2172 z1979.book, ownS ty_api_Decision v2174 z1979.open_, ownS ty_api_Item v2176 z1979.out, ownS ty_lane_used v2178 z1979.used, ownS ty_api_Item v2156 z2157] R) n2285 ⟨(0:Int), [], Zs, _, hm, (fu 1 (.int .i64 (0:Int)) z (fu 5 (.slice none 0 0) z (fu 14 v2176 z (fu 15 (.int .i64 ((z1979.out).length : Int)) z (fu 16 (.int .i64 (0:Int)) z z))))), hst⟩ ?_
 rintro n2291 _ w2286 ⟨z2280, z2281, v2282, σ2284, hm, rfl, hst⟩
 obtain ⟨n2288, y2289, rfl, hm, hx2290⟩ := loopN_some hm
 dsimp only [law16_LaneQuotas_l7] at hm
 refine wp_seq (wrl (wv (.bool (decide (z2280 < ((z1979.out).length : Int)))) z z z (wl_nil (tn (wp_seq ?_)))))
 refine bsplit (decide (z2280 < ((z1979.out).length : Int))) (fun hc2292 => ?_) (fun hc2292 => ?_)
 {
 replace hm := bif_t hc2292 hm
 refine wp_ift (cvb hc2292) ?_
 refine wp_skip (tn (wp_seq (wp_block (wp_seq (wrl ?_)))))
 obtain ⟨x2293, hx2294, hm⟩ := bind_some hm
 obtain ⟨h2295, h2296, hi2297⟩ := geto_some hx2294
 refine wv (.pointer (some (eAddr v2176 (z2280.toNat * 7 + 0)))) z z (x_index z z underlying50 sizeOf53 hst.sv7 h2295 h2296) ?_
 obtain ⟨cs2298, hr2299, hc2300⟩ := hst.og7 hi2297
 obtain ⟨v2301, rfl, f2302, -⟩ := hr2299
 refine wv (.agg #[I6 x2293.To, U6 x2293.N, U6 x2293.Rule, U6 x2293.Epoch, F6 x2293.W.At, .bool x2293.W.Del, v2301]) z z (x_loadN (cs := [I6 x2293.To, U6 x2293.N, U6 x2293.Rule, U6 x2293.Epoch, F6 x2293.W.At, .bool x2293.W.Del, v2301]) z isAgg53 sizeOf53 (eCells (o := 0) hc2300 z)) ?_
 obtain ⟨b2305, w2306, ew2307, eb2308, hst⟩ := hst.box [Zi, Zu, Zu, Zu, Zf, .bool false, Zs] 53
 refine wl_run (v := Pt b2305 0) (w' := w2306) z z (x_al (by kernel_rfl) ew2307 eb2308) ?_
 obtain ⟨w2310, hr2311, hst⟩ := hst.bx [I6 x2293.To, U6 x2293.N, U6 x2293.Rule, U6 x2293.Epoch, F6 x2293.W.At, .bool x2293.W.Del, v2301] sizeOf53 z (oC z (oC z (oC z (oC z (oC z (oC z (oC (one_of_sliceV (ro_sliceV f2302)) oN))))))) (by kernel_rfl)
 refine wl_unit z z (x_unit hr2311) ?_
 refine wl_nil (tn (wp_seq (wrl (wv (Pt b2305 0) z z (x_field z underlying53 z sizeOf3 z) (wv (.int .i64 x2293.To) z z (x_load z isAgg3 (hst.bc0 z)) (wv (.int .i64 (0:Int)) z z z (wv (.bool (x2293.To == (0:Int))) z z z (wl_nil (tn ?_)))))))))
 refine bsplit (x2293.To == (0:Int)) (fun hc2312 => ?_) (fun hc2312 => ?_)
 {
 replace hm := bif_t hc2312 hm
 refine wp_ift (cvb hc2312) ?_
 refine wrl (wv (v2282) z z z (wv (.agg #[I6 x2293.To, U6 x2293.N, U6 x2293.Rule, U6 x2293.Epoch, F6 x2293.W.At, .bool x2293.W.Del, v2301]) z z (x_loadN (cs := [I6 x2293.To, U6 x2293.N, U6 x2293.Rule, U6 x2293.Epoch, F6 x2293.W.At, .bool x2293.W.Del, v2301]) z isAgg53 sizeOf53 (hst.bcs0 0 z)) ?_))
 obtain ⟨b2314, w2315, ew2316, eb2317, hst⟩ := hst.lits (E := ty_api_Item) (xs := [x2293]) [[I6 x2293.To, U6 x2293.N, U6 x2293.Rule, U6 x2293.Epoch, F6 x2293.W.At, .bool x2293.W.Del, v2301]] 53 1 z (Reps.cons ⟨_, z, f2302, one_of_sliceV (ro_sliceV f2302)⟩ Reps.nil)
 refine wl_run (v := (.slice (some ⟨b2314, 0, none⟩) 1 1)) (w' := w2315) z z (x_als (by kernel_rfl) ew2316 eb2317) ?_
 obtain ⟨hg2319, hm⟩ := gd_some hm
 replace hst := hst.pull2
 obtain ⟨v2320, w2321, hr2322, hst⟩ := run_append elem_50 underlying50 hst hst.src1 (room_of hg2319 z) 50
 refine wl_run (v := v2320) (w' := w2321) z z (x_append z z hr2322) ?_
 refine wv (v2320) z z z (wl_nil (blk_n (tn (wrl (wv (.int .i64 (i64.wrap (z2280 + (1:Int)))) z z z (wv (.int .i64 (i64.wrap (z2280 + (1:Int)))) z z z (wl_nil (tn ?_))))))))
 replace hst := hst.pull11.pull11.pull11.pull11.pull11.pull11.pull11.pull11.pull11.pull9.keep10
 obtain rfl := some_inj hm
 exact ⟨_, Nat.lt_succ_self _, (i64.wrap (z2280 + (1:Int))), (z2281 ++ ([x2293])), v2320, _, hx2290, (fu 1 (.int .i64 (0:Int)) z (fu 5 v2320 z (fu 14 v2176 z (fu 15 (.int .i64 ((z1979.out).length : Int)) z (fu 16 (.int .i64 (i64.wrap (z2280 + (1:Int)))) z z))))), hst⟩
}
 {
 replace hm := bif_f hc2312 hm
 refine wp_iff (cvb hc2312) ?_
 refine wp_skip (blk_n (tn (wrl ?_)))
 refine wv (.int .i64 (i64.wrap (z2280 + (1:Int)))) z z z (wv (.int .i64 (i64.wrap (z2280 + (1:Int)))) z z z (wl_nil (tn ?_)))
 replace hst := hst.pull10.pull10.pull10.pull10.pull10.pull10.pull10.pull10.pull10.pull10.keep10
 obtain rfl := some_inj hm
 exact ⟨_, Nat.lt_succ_self _, (i64.wrap (z2280 + (1:Int))), z2281, v2282, _, hx2290, (fu 1 (.int .i64 (0:Int)) z (fu 5 v2282 z (fu 14 v2176 z (fu 15 (.int .i64 ((z1979.out).length : Int)) z (fu 16 (.int .i64 (i64.wrap (z2280 + (1:Int)))) z z))))), hst⟩
}
}
 {
 replace hm := bif_f hc2292 hm
 refine wp_iff (cvb hc2292) ?_
 refine wp_exit (then_x (then_x ?_))
 replace hm := inr_up hm hx2290
 refine blk_x (tn (wp_seq (wrl ?_)))
 refine wv (v2282) z z z (wv (v2282) z z z (wl_nil (tn (wp_ret ?_))))
 refine post_ret (vs := [v2282]) results15 (rvs_cons (rv_tmp z) rvs_nil) ?_
 replace hst := hst.pull8.pull8.pull8.pull8.pull8.pull8.pull8.pull8
 replace hst := at_lane_State_close (pv := Pt b2165 0) (x := z1979) hst z
 replace hst := hst.pull2.pull1.pull2.keep3
 obtain rfl := some_inj hm
 exact ⟨z2281, v2282, z, z, hst⟩
}
}
 clear hst
 rintro _ w2330 ⟨z2326, v2325, rfl, rfl, hst⟩
 refine ⟨_, z, ?_⟩
 try dsimp only at hm
 refine wv (.int .i64 ((z2326).length : Int)) ((wanted_eq z z z (cvb hc2162)).trans z) z (x_len z underlying50 hst.sv0) (wv (.bool (((z2326).length : Int) != (0:Int))) ((wanted_eq z z z (cvb hc2162)).trans z) z z (wv (.bool (((z2326).length : Int) != (0:Int))) z z (x_pick_f hc2162 z z) (wl_nil (tn ?_))))
 refine bsplit (((z2326).length : Int) != (0:Int)) (fun hc2331 => ?_) (fun hc2331 => ?_)
 {
 replace hm := bif_t hc2331 hm
 refine wp_ift (cvb hc2331) ?_
 refine wp_seq (wrl (wv (.bool false) z z z (wl_nil (tn (wp_ret (then_r ?_))))))
 obtain rfl := some_inj hm
 refine post_ret (vs := [.bool false]) results3 (rvs_cons (rv_tmp z) rvs_nil) ?_
 exact ⟨_, z, hI0, hst.keep0⟩
}
 {
 replace hm := bif_f hc2331 hm
 refine wp_iff (cvb hc2331) ?_
 refine wp_skip (tn (wp_seq (wp_seq (wrl ?_))))
 refine wv (.int .i64 (0:Int)) z z z (wl_nil (tn (wp_block ?_)))
 replace hst := hst.sub.sub
 obtain ⟨n2389, hm⟩ := loopO_some hm
 refine wp_loop_n (fun n a w => ∃ (z2387 : Int) (σ2388 : Nat → Value), loopN (law16_LaneQuotas_l8 z2157 z1988 a2 a3) n z2387 = some r ∧ a = Fr 162 (upd (upd (upd (upd (upd σ2388 3 (r3_0)) 9 (.int .i64 (Int.tmod (i64.wrap a2) (20:Int)))) 17 (.int .i64 z1988)) 18 (v2156)) 19 (.int .i64 z2387)) ∧ St w0 w I1980 [ownS ty_api_Item v2156 z2157] R) n2389 ⟨(0:Int), _, hm, (fu 3 r3_0 z (fu 9 (.int .i64 (Int.tmod (i64.wrap a2) (20:Int))) z (fu 17 (.int .i64 z1988) z (fu 18 v2156 z (fu 19 (.int .i64 (0:Int)) z z))))), hst⟩ ?_
 rintro n2395 _ w2390 ⟨z2387, σ2388, hm, rfl, hst⟩
 obtain ⟨n2392, y2393, rfl, hm, hx2394⟩ := loopN_some hm
 dsimp only [law16_LaneQuotas_l8] at hm
 refine wp_seq (wp_seq (wrl (wv (.int .i64 z2387) z z z (wv (v2156) z z z (wv (.int .i64 ((z2157).length : Int)) z z (x_len z underlying50 hst.sv0) (wv (.bool (decide (z2387 < ((z2157).length : Int)))) z z z (wl_nil (tn ?_))))))))
 refine bsplit (decide (z2387 < ((z2157).length : Int))) (fun hc2396 => ?_) (fun hc2396 => ?_)
 {
 replace hm := bif_t hc2396 hm
 refine wp_ift (cvb hc2396) ?_
 refine wp_skip (tn (wp_seq (wp_block (wp_seq ?_))))
 obtain ⟨css2397, hq2398, hst⟩ := hst.own_open
 refine wp_region_St hst 49 [0, 1, 2, 3, 4, 5, 6, 7, 8, 9, 10, 11, 12, 13, 14, 15, 16, 17, 18, 19, 20, 21, 22, 23, 24, 25, 26, 27, 28, 29, 30, 31, 32, 33, 34, 35, 36, 37, 38, 39, 40, 41, 42, 43, 44, 45, 46, 47, 48] [0, 0, 3, 7, 15, 0, 32, 96, 255, 511, 1023, 1023, 4095, 8191, 16383, 1023, 1023, 99327, 230399, 492543, 1048575, 2097151, 4194303, 8388607, 8388607, 33554431, 67108863, 134217727, 268435455, 536870911, 8388607, 2147483647, 4294967295, 8589934591, 17179869183, 17179869183, 68719476735, 137438953471, 274877906943, 549755813887, 1099511627775, 17179869183, 2216203124735, 17179869183, 15410342658047, 33002528702463, 68186900791295, 140737488355327, 281474976710655] [] z (by kernel_rfl) (by kernel_rfl) Tryz.mixed (by kernel_rfl) ?_
 refine wsr (v2156) 0 z z z (by kernel_rfl) (fun w hst => z) (wsr (.int .i64 z2387) 1 z z z (by kernel_rfl) (fun w hst => z) ?_)
 obtain ⟨x2399, hx2400, hm⟩ := bind_some hm
 obtain ⟨h2401, h2402, hi2403⟩ := geto_some hx2400
 refine wsr (.pointer (some (eAddr v2156 (z2387.toNat * 7 + 0)))) 2 z z z (by kernel_rfl) (fun w hst => x_index z z underlying50 sizeOf53 (hst.rsv 0 z hq2398) h2401 h2402) (wsr (.pointer (some (eAddr v2156 (z2387.toNat * 7 + 1)))) 3 z z z (by kernel_rfl) (fun w hst => x_field_e z underlying53 z sizeOf26 z) ?_)
 obtain ⟨cs2404, hc2406, hr2405⟩ := Reps.get hq2398 hi2403
 obtain ⟨v2407, rfl, f2408, -⟩ := hr2405
 refine wsr (.int .u64 x2399.N) 4 z z z (by kernel_rfl) (fun w hst => x_load z isAgg26 ((hst.rcell 0 z hc2406) 1 _ z)) (wsr (.int .i64 z2387) 5 z z z (by kernel_rfl) (fun w hst => z) (wsr (.int .i64 (i64.wrap (z2387 + (1:Int)))) 6 z z z (by kernel_rfl) (fun w hst => z) (wsr (.int .u64 (u64.wrap (i64.wrap (z2387 + (1:Int))))) 7 z z z (by kernel_rfl) (fun w hst => by kernel_rfl) (wsr (.bool (x2399.N != (u64.wrap (i64.wrap (z2387 + (1:Int)))))) 8 z z z (by kernel_rfl) (fun w hst => z) (wsr (.bool (x2399.N != (u64.wrap (i64.wrap (z2387 + (1:Int)))))) 9 z z z (by kernel_rfl) (fun w hst => z) ?_)))))
 refine bsplit (x2399.N != (u64.wrap (i64.wrap (z2387 + (1:Int))))) (fun hc2410 => ?_) (fun hc2410 => ?_)
 {
 replace hm := bif_t hc2410 hm
 refine ws_q (v := undef) 10 [11, 12, 13, 14, 15, 16, 17, 18, 19, 20, 21, 22, 23, 24, 25, 26, 27, 28, 29, 30, 31, 32, 33, 34, 35, 36, 37, 38, 39, 40, 41, 42, 43, 44, 45, 46, 47, 48] (by kernel_rfl) z z (yi_off ((wanted_eq z z z (cvb hc2410)).trans z)) (ws_q (v := undef) 11 [12, 13, 14, 15, 16, 17, 18, 19, 20, 21, 22, 23, 24, 25, 26, 27, 28, 29, 30, 31, 32, 33, 34, 35, 36, 37, 38, 39, 40, 41, 42, 43, 44, 45, 46, 47, 48] (by kernel_rfl) z z (yi_off ((wanted_eq z z z (cvb hc2410)).trans z)) (ws_q (v := undef) 12 [13, 14, 15, 16, 17, 18, 19, 20, 21, 22, 23, 24, 25, 26, 27, 28, 29, 30, 31, 32, 33, 34, 35, 36, 37, 38, 39, 40, 41, 42, 43, 44, 45, 46, 47, 48] (by kernel_rfl) z z (yi_off ((wanted_eq z z z (cvb hc2410)).trans z)) (ws_q (v := undef) 13 [14, 15, 16, 17, 18, 19, 20, 21, 22, 23, 24, 25, 26, 27, 28, 29, 30, 31, 32, 33, 34, 35, 36, 37, 38, 39, 40, 41, 42, 43, 44, 45, 46, 47, 48] (by kernel_rfl) z z (yi_off ((wanted_eq z z z (cvb hc2410)).trans z)) (ws_q (v := undef) 14 [15, 16, 17, 18, 19, 20, 21, 22, 23, 24, 25, 26, 27, 28, 29, 30, 31, 32, 33, 34, 35, 36, 37, 38, 39, 40, 41, 42, 43, 44, 45, 46, 47, 48] (by kernel_rfl) z z (yi_off ((wanted_eq z z z (cvb hc2410)).trans z)) (ws_q (v := undef) 15 [16, 17, 18, 19, 20, 21, 22, 23, 24, 25, 26, 27, 28, 29, 30, 31, 32, 33, 34, 35, 36, 37, 38, 39, 40, 41, 42, 43, 44, 45, 46, 47, 48] (by kernel_rfl) z z (yi_off ((wanted_eq z z z (cvb hc2410)).trans z)) (ws_q (v := undef) 16 [17, 18, 19, 20, 21, 22, 23, 24, 25, 26, 27, 28, 29, 30, 31, 32, 33, 34, 35, 36, 37, 38, 39, 40, 41, 42, 43, 44, 45, 46, 47, 48] (by kernel_rfl) z z (yi_off ((wanted_eq z z z (cvb hc2410)).trans z)) (ws_q (v := undef) 17 [18, 19, 20, 21, 22, 23, 24, 25, 26, 27, 28, 29, 30, 31, 32, 33, 34, 35, 36, 37, 38, 39, 40, 41, 42, 43, 44, 45, 46, 47, 48] (by kernel_rfl) z z (yi_off ((wanted_eq z z z (cvb hc2410)).trans z)) (ws_q (v := undef) 18 [19, 20, 21, 22, 23, 24, 25, 26, 27, 28, 29, 30, 31, 32, 33, 34, 35, 36, 37, 38, 39, 40, 41, 42, 43, 44, 45, 46, 47, 48] (by kernel_rfl) z z (yi_off ((wanted_eq z z z (cvb hc2410)).trans z)) (ws_q (v := undef) 19 [20, 21, 22, 23, 24, 25, 26, 27, 28, 29, 30, 31, 32, 33, 34, 35, 36, 37, 38, 39, 40, 41, 42, 43, 44, 45, 46, 47, 48] (by kernel_rfl) z z (yi_off ((wanted_eq z z z (cvb hc2410)).trans z)) (ws_q (v := undef) 20 [21, 22, 23, 24, 25, 26, 27, 28, 29, 30, 31, 32, 33, 34, 35, 36, 37, 38, 39, 40, 41, 42, 43, 44, 45, 46, 47, 48] (by kernel_rfl) z z (yi_off ((wanted_eq z z z (cvb hc2410)).trans z)) (wsr (.bool true) 21 z z z (by kernel_rfl) (fun w hst => x_pick_t hc2410 z z) (wsr (.bool true) 22 z z z (by kernel_rfl) (fun w hst => z) ?_))))))))))))
 refine ws_q (v := undef) 23 [24, 25, 26, 27, 28, 29, 30, 31, 32, 33, 34, 35, 36, 37, 38, 39, 40, 41, 42, 43, 44, 45, 46, 47, 48] (by kernel_rfl) z z (yi_off ((wanted_eq z z z z).trans z)) (ws_q (v := undef) 24 [25, 26, 27, 28, 29, 30, 31, 32, 33, 34, 35, 36, 37, 38, 39, 40, 41, 42, 43, 44, 45, 46, 47, 48] (by kernel_rfl) z z (yi_off ((wanted_eq z z z z).trans z)) (ws_q (v := undef) 25 [26, 27, 28, 29, 30, 31, 32, 33, 34, 35, 36, 37, 38, 39, 40, 41, 42, 43, 44, 45, 46, 47, 48] (by kernel_rfl) z z (yi_off ((wanted_eq z z z z).trans z)) (ws_q (v := undef) 26 [27, 28, 29, 30, 31, 32, 33, 34, 35, 36, 37, 38, 39, 40, 41, 42, 43, 44, 45, 46, 47, 48] (by kernel_rfl) z z (yi_off ((wanted_eq z z z z).trans z)) (ws_q (v := undef) 27 [28, 29, 30, 31, 32, 33, 34, 35, 36, 37, 38, 39, 40, 41, 42, 43, 44, 45, 46, 47, 48] (by kernel_rfl) z z (yi_off ((wanted_eq z z z z).trans z)) (ws_q (v := undef) 28 [29, 30, 31, 32, 33, 34, 35, 36, 37, 38, 39, 40, 41, 42, 43, 44, 45, 46, 47, 48] (by kernel_rfl) z z (yi_off ((wanted_eq z z z z).trans z)) (ws_q (v := undef) 29 [30, 31, 32, 33, 34, 35, 36, 37, 38, 39, 40, 41, 42, 43, 44, 45, 46, 47, 48] (by kernel_rfl) z z (yi_off ((wanted_eq z z z z).trans z)) (ws_q (v := undef) 30 [31, 32, 33, 34, 35, 36, 37, 38, 39, 40, 41, 42, 43, 44, 45, 46, 47, 48] (by kernel_rfl) z z (yi_off ((wanted_eq z z z z).trans z)) (ws_q (v := undef) 31 [32, 33, 34, 35, 36, 37, 38, 39, 40, 41, 42, 43, 44, 45, 46, 47, 48] (by kernel_rfl) z z (yi_off ((wanted_eq z z z z).trans z)) (wsr (.bool true) 32 z z z (by kernel_rfl) (fun w hst => x_pick_t z z z) (wsr (.bool true) 33 z z z (by kernel_rfl) (fun w hst => z) (ws_q (v := undef) 34 [35, 36, 37, 38, 39, 40, 41, 42, 43, 44, 45, 46, 47, 48] (by kernel_rfl) z z (yi_off ((wanted_eq z z z z).trans z)) (ws_q (v := undef) 35 [36, 37, 38, 39, 40, 41, 42, 43, 44, 45, 46, 47, 48] (by kernel_rfl) z z (yi_off ((wanted_eq z z z z).trans z)) ?_))))))))))))
 refine ws_q (v := undef) 36 [37, 38, 39, 40, 41, 42, 43, 44, 45, 46, 47, 48] (by kernel_rfl) z z (yi_off ((wanted_eq z z z z).trans z)) (ws_q (v := undef) 37 [38, 39, 40, 41, 42, 43, 44, 45, 46, 47, 48] (by kernel_rfl) z z (yi_off ((wanted_eq z z z z).trans z)) (ws_q (v := undef) 38 [39, 40, 41, 42, 43, 44, 45, 46, 47, 48] (by kernel_rfl) z z (yi_off ((wanted_eq z z z z).trans z)) (ws_q (v := undef) 39 [40, 41, 42, 43, 44, 45, 46, 47, 48] (by kernel_rfl) z z (yi_off ((wanted_eq z z z z).trans z)) (ws_q (v := undef) 40 [41, 42, 43, 44, 45, 46, 47, 48] (by kernel_rfl) z z (yi_off ((wanted_eq z z z z).trans z)) (ws_q (v := undef) 41 [42, 43, 44, 45, 46, 47, 48] (by kernel_rfl) z z (yi_off ((wanted_eq z z z z).trans z)) (ws_q (v := undef) 42 [43, 44, 45, 46, 47, 48] (by kernel_rfl) z z (yi_off ((wanted_eq z z z z).trans z)) (ws_q (v := undef) 43 [44, 45, 46, 47, 48] (by kernel_rfl) z z (yi_off ((wanted_eq z z z z).trans z)) (ws_q (v := undef) 44 [45, 46, 47, 48] (by kernel_rfl) z z (yi_off ((wanted_eq z z z z).trans z)) (ws_q (v := undef) 45 [46, 47, 48] (by kernel_rfl) z z (yi_off ((wanted_eq z z z z).trans z)) (ws_q (v := undef) 46 [47, 48] (by kernel_rfl) z z (yi_off ((wanted_eq z z z z).trans z)) (ws_q (v := undef) 47 [48] (by kernel_rfl) z z (yi_off ((wanted_eq z z z z).trans z)) (wsr (.bool true) 48 z z z (by kernel_rfl) (fun w hst => x_pick_t z z z) ?_))))))))))))
 refine ws_nil ?_
 intro w hst
 replace hst := hst.own_close hq2398
 refine tn ?_
 refine wp_ift z ?_
 refine wp_seq (wrl (wv (.bool false) z z z (wl_nil (tn (wp_ret (blk_r (then_r (then_r ?_))))))))
 replace hm := inr_up hm hx2394
 refine blk_r (then_r ?_)
 obtain rfl := some_inj hm
 refine post_ret (vs := [.bool false]) results3 (rvs_cons (rv_tmp z) rvs_nil) ?_
 exact ⟨_, z, hI0, hst.keep0⟩
}
 {
 replace hm := bif_f hc2410 hm
 refine ws_q (v := v2156) 10 [11, 12, 13, 14, 15, 16, 17, 18, 19, 20, 21, 22, 23, 24, 25, 26, 27, 28, 29, 30, 31, 32, 33, 34, 35, 36, 37, 38, 39, 40, 41, 42, 43, 44, 45, 46, 47, 48] (by kernel_rfl) z z (yi_run ((wanted_eq z z z (cvb hc2410)).trans z) (fun w hst => z)) (ws_q (v := .int .i64 z2387) 11 [12, 13, 14, 15, 16, 17, 18, 19, 20, 21, 22, 23, 24, 25, 26, 27, 28, 29, 30, 31, 32, 33, 34, 35, 36, 37, 38, 39, 40, 41, 42, 43, 44, 45, 46, 47, 48] (by kernel_rfl) z z (yi_run ((wanted_eq z z z (cvb hc2410)).trans z) (fun w hst => z)) (ws_q (v := .pointer (some (eAddr v2156 (z2387.toNat * 7 + 0)))) 12 [13, 14, 15, 16, 17, 18, 19, 20, 21, 22, 23, 24, 25, 26, 27, 28, 29, 30, 31, 32, 33, 34, 35, 36, 37, 38, 39, 40, 41, 42, 43, 44, 45, 46, 47, 48] (by kernel_rfl) z z (yi_run ((wanted_eq z z z (cvb hc2410)).trans z) (fun w hst => x_index z z underlying50 sizeOf53 (hst.rsv 0 z hq2398) h2401 h2402)) (ws_q (v := .pointer (some (eAddr v2156 (z2387.toNat * 7 + 3)))) 13 [14, 15, 16, 17, 18, 19, 20, 21, 22, 23, 24, 25, 26, 27, 28, 29, 30, 31, 32, 33, 34, 35, 36, 37, 38, 39, 40, 41, 42, 43, 44, 45, 46, 47, 48] (by kernel_rfl) z z (yi_run ((wanted_eq z z z (cvb hc2410)).trans z) (fun w hst => x_field_e z underlying53 z sizeOf26 z)) (ws_q (v := .int .u64 x2399.Epoch) 14 [15, 16, 17, 18, 19, 20, 21, 22, 23, 24, 25, 26, 27, 28, 29, 30, 31, 32, 33, 34, 35, 36, 37, 38, 39, 40, 41, 42, 43, 44, 45, 46, 47, 48] (by kernel_rfl) z z (yi_run ((wanted_eq z z z (cvb hc2410)).trans z) (fun w hst => x_load z isAgg26 ((hst.rcell 0 z hc2406) 3 _ z))) (ws_q (v := .int .i64 z2387) 15 [16, 17, 18, 19, 20, 21, 22, 23, 24, 25, 26, 27, 28, 29, 30, 31, 32, 33, 34, 35, 36, 37, 38, 39, 40, 41, 42, 43, 44, 45, 46, 47, 48] (by kernel_rfl) z z (yi_run ((wanted_eq z z z (cvb hc2410)).trans z) (fun w hst => z)) (ws_q (v := .int .i64 z1988) 16 [17, 18, 19, 20, 21, 22, 23, 24, 25, 26, 27, 28, 29, 30, 31, 32, 33, 34, 35, 36, 37, 38, 39, 40, 41, 42, 43, 44, 45, 46, 47, 48] (by kernel_rfl) z z (yi_run ((wanted_eq z z z (cvb hc2410)).trans z) (fun w hst => z)) ?_))))))
 obtain ⟨hg2411, hm⟩ := gd_some hm
 refine ws_q (v := .int .i64 (i64.wrap (Int.tdiv z2387 z1988))) 17 [18, 19, 20, 21, 22, 23, 24, 25, 26, 27, 28, 29, 30, 31, 32, 33, 34, 35, 36, 37, 38, 39, 40, 41, 42, 43, 44, 45, 46, 47, 48] (by kernel_rfl) z z (yi_run ((wanted_eq z z z (cvb hc2410)).trans z) (fun w hst => x_quo (not_t hg2411) z z)) (ws_q (v := .int .i64 (i64.wrap ((i64.wrap (Int.tdiv z2387 z1988)) + (1:Int)))) 18 [19, 20, 21, 22, 23, 24, 25, 26, 27, 28, 29, 30, 31, 32, 33, 34, 35, 36, 37, 38, 39, 40, 41, 42, 43, 44, 45, 46, 47, 48] (by kernel_rfl) z z (yi_run ((wanted_eq z z z (cvb hc2410)).trans z) (fun w hst => z)) (ws_q (v := .int .u64 (u64.wrap (i64.wrap ((i64.wrap (Int.tdiv z2387 z1988)) + (1:Int))))) 19 [20, 21, 22, 23, 24, 25, 26, 27, 28, 29, 30, 31, 32, 33, 34, 35, 36, 37, 38, 39, 40, 41, 42, 43, 44, 45, 46, 47, 48] (by kernel_rfl) z z (yi_run ((wanted_eq z z z (cvb hc2410)).trans z) (fun w hst => by kernel_rfl)) (ws_q (v := .bool (x2399.Epoch != (u64.wrap (i64.wrap ((i64.wrap (Int.tdiv z2387 z1988)) + (1:Int)))))) 20 [21, 22, 23, 24, 25, 26, 27, 28, 29, 30, 31, 32, 33, 34, 35, 36, 37, 38, 39, 40, 41, 42, 43, 44, 45, 46, 47, 48] (by kernel_rfl) z z (yi_run ((wanted_eq z z z (cvb hc2410)).trans z) (fun w hst => z)) (wsr (.bool (x2399.Epoch != (u64.wrap (i64.wrap ((i64.wrap (Int.tdiv z2387 z1988)) + (1:Int)))))) 21 z z z (by kernel_rfl) (fun w hst => x_pick_f hc2410 z z) (wsr (.bool (x2399.Epoch != (u64.wrap (i64.wrap ((i64.wrap (Int.tdiv z2387 z1988)) + (1:Int)))))) 22 z z z (by kernel_rfl) (fun w hst => z) ?_)))))
 refine bsplit (x2399.Epoch != (u64.wrap (i64.wrap ((i64.wrap (Int.tdiv z2387 z1988)) + (1:Int))))) (fun hc2412 => ?_) (fun hc2412 => ?_)
 {
 replace hm := bif_t hc2412 hm
 refine ws_q (v := undef) 23 [24, 25, 26, 27, 28, 29, 30, 31, 32, 33, 34, 35, 36, 37, 38, 39, 40, 41, 42, 43, 44, 45, 46, 47, 48] (by kernel_rfl) z z (yi_off ((wanted_eq z z z (cvb hc2412)).trans z)) (ws_q (v := undef) 24 [25, 26, 27, 28, 29, 30, 31, 32, 33, 34, 35, 36, 37, 38, 39, 40, 41, 42, 43, 44, 45, 46, 47, 48] (by kernel_rfl) z z (yi_off ((wanted_eq z z z (cvb hc2412)).trans z)) (ws_q (v := undef) 25 [26, 27, 28, 29, 30, 31, 32, 33, 34, 35, 36, 37, 38, 39, 40, 41, 42, 43, 44, 45, 46, 47, 48] (by kernel_rfl) z z (yi_off ((wanted_eq z z z (cvb hc2412)).trans z)) (ws_q (v := undef) 26 [27, 28, 29, 30, 31, 32, 33, 34, 35, 36, 37, 38, 39, 40, 41, 42, 43, 44, 45, 46, 47, 48] (by kernel_rfl) z z (yi_off ((wanted_eq z z z (cvb hc2412)).trans z)) (ws_q (v := undef) 27 [28, 29, 30, 31, 32, 33, 34, 35, 36, 37, 38, 39, 40, 41, 42, 43, 44, 45, 46, 47, 48] (by kernel_rfl) z z (yi_off ((wanted_eq z z z (cvb hc2412)).trans z)) (ws_q (v := undef) 28 [29, 30, 31, 32, 33, 34, 35, 36, 37, 38, 39, 40, 41, 42, 43, 44, 45, 46, 47, 48] (by kernel_rfl) z z (yi_off ((wanted_eq z z z (cvb hc2412)).trans z)) (ws_q (v := undef) 29 [30, 31, 32, 33, 34, 35, 36, 37, 38, 39, 40, 41, 42, 43, 44, 45, 46, 47, 48] (by kernel_rfl) z z (yi_off ((wanted_eq z z z (cvb hc2412)).trans z)) (ws_q (v := undef) 30 [31, 32, 33, 34, 35, 36, 37, 38, 39, 40, 41, 42, 43, 44, 45, 46, 47, 48] (by kernel_rfl) z z (yi_off ((wanted_eq z z z (cvb hc2412)).trans z)) (ws_q (v := undef) 31 [32, 33, 34, 35, 36, 37, 38, 39, 40, 41, 42, 43, 44, 45, 46, 47, 48] (by kernel_rfl) z z (yi_off ((wanted_eq z z z (cvb hc2412)).trans z)) (wsr (.bool true) 32 z z z (by kernel_rfl) (fun w hst => x_pick_t hc2412 z z) (wsr (.bool true) 33 z z z (by kernel_rfl) (fun w hst => z) (ws_q (v := undef) 34 [35, 36, 37, 38, 39, 40, 41, 42, 43, 44, 45, 46, 47, 48] (by kernel_rfl) z z (yi_off ((wanted_eq z z z z).trans z)) (ws_q (v := undef) 35 [36, 37, 38, 39, 40, 41, 42, 43, 44, 45, 46, 47, 48] (by kernel_rfl) z z (yi_off ((wanted_eq z z z z).trans z)) ?_))))))))))))
 refine ws_q (v := undef) 36 [37, 38, 39, 40, 41, 42, 43, 44, 45, 46, 47, 48] (by kernel_rfl) z z (yi_off ((wanted_eq z z z z).trans z)) (ws_q (v := undef) 37 [38, 39, 40, 41, 42, 43, 44, 45, 46, 47, 48] (by kernel_rfl) z z (yi_off ((wanted_eq z z z z).trans z)) (ws_q (v := undef) 38 [39, 40, 41, 42, 43, 44, 45, 46, 47, 48] (by kernel_rfl) z z (yi_off ((wanted_eq z z z z).trans z)) (ws_q (v := undef) 39 [40, 41, 42, 43, 44, 45, 46, 47, 48] (by kernel_rfl) z z (yi_off ((wanted_eq z z z z).trans z)) (ws_q (v := undef) 40 [41, 42, 43, 44, 45, 46, 47, 48] (by kernel_rfl) z z (yi_off ((wanted_eq z z z z).trans z)) (ws_q (v := undef) 41 [42, 43, 44, 45, 46, 47, 48] (by kernel_rfl) z z (yi_off ((wanted_eq z z z z).trans z)) (ws_q (v := undef) 42 [43, 44, 45, 46, 47, 48] (by kernel_rfl) z z (yi_off ((wanted_eq z z z z).trans z)) (ws_q (v := undef) 43 [44, 45, 46, 47, 48] (by kernel_rfl) z z (yi_off ((wanted_eq z z z z).trans z)) (ws_q (v := undef) 44 [45, 46, 47, 48] (by kernel_rfl) z z (yi_off ((wanted_eq z z z z).trans z)) (ws_q (v := undef) 45 [46, 47, 48] (by kernel_rfl) z z (yi_off ((wanted_eq z z z z).trans z)) (ws_q (v := undef) 46 [47, 48] (by kernel_rfl) z z (yi_off ((wanted_eq z z z z).trans z)) (ws_q (v := undef) 47 [48] (by kernel_rfl) z z (yi_off ((wanted_eq z z z z).trans z)) (wsr (.bool true) 48 z z z (by kernel_rfl) (fun w hst => x_pick_t z z z) ?_))))))))))))
 refine ws_nil ?_
 intro w hst
 replace hst := hst.own_close hq2398
 refine tn ?_
 refine wp_ift z ?_
 refine wp_seq (wrl (wv (.bool false) z z z (wl_nil (tn (wp_ret (blk_r (then_r (then_r ?_))))))))
 replace hm := inr_up hm hx2394
 refine blk_r (then_r ?_)
 obtain rfl := some_inj hm
 refine post_ret (vs := [.bool false]) results3 (rvs_cons (rv_tmp z) rvs_nil) ?_
 exact ⟨_, z, hI0, hst.keep0⟩
}
 {
 replace hm := bif_f hc2412 hm
 refine ws_q (v := v2156) 23 [24, 25, 26, 27, 28, 29, 30, 31, 32, 33, 34, 35, 36, 37, 38, 39, 40, 41, 42, 43, 44, 45, 46, 47, 48] (by kernel_rfl) z z (yi_run ((wanted_eq z z z (cvb hc2412)).trans z) (fun w hst => z)) (ws_q (v := .int .i64 z2387) 24 [25, 26, 27, 28, 29, 30, 31, 32, 33, 34, 35, 36, 37, 38, 39, 40, 41, 42, 43, 44, 45, 46, 47, 48] (by kernel_rfl) z z (yi_run ((wanted_eq z z z (cvb hc2412)).trans z) (fun w hst => z)) (ws_q (v := .pointer (some (eAddr v2156 (z2387.toNat * 7 + 0)))) 25 [26, 27, 28, 29, 30, 31, 32, 33, 34, 35, 36, 37, 38, 39, 40, 41, 42, 43, 44, 45, 46, 47, 48] (by kernel_rfl) z z (yi_run ((wanted_eq z z z (cvb hc2412)).trans z) (fun w hst => x_index z z underlying50 sizeOf53 (hst.rsv 0 z hq2398) h2401 h2402)) (ws_q (v := .pointer (some (eAddr v2156 (z2387.toNat * 7 + 4)))) 26 [27, 28, 29, 30, 31, 32, 33, 34, 35, 36, 37, 38, 39, 40, 41, 42, 43, 44, 45, 46, 47, 48] (by kernel_rfl) z z (yi_run ((wanted_eq z z z (cvb hc2412)).trans z) (fun w hst => x_field_e z underlying53 z sizeOf41 z)) (ws_q (v := .pointer (some (eAddr v2156 (z2387.toNat * 7 + 6)))) 27 [28, 29, 30, 31, 32, 33, 34, 35, 36, 37, 38, 39, 40, 41, 42, 43, 44, 45, 46, 47, 48] (by kernel_rfl) z z (yi_run ((wanted_eq z z z (cvb hc2412)).trans z) (fun w hst => x_field_e z underlying41 z sizeOf22 z)) (ws_q (v := v2407) 28 [29, 30, 31, 32, 33, 34, 35, 36, 37, 38, 39, 40, 41, 42, 43, 44, 45, 46, 47, 48] (by kernel_rfl) z z (yi_run ((wanted_eq z z z (cvb hc2412)).trans z) (fun w hst => x_load z isAgg22 ((hst.rcell 0 z hc2406) 6 _ z))) (ws_q (v := .int .i64 ((x2399.W.Val).length : Int)) 29 [30, 31, 32, 33, 34, 35, 36, 37, 38, 39, 40, 41, 42, 43, 44, 45, 46, 47, 48] (by kernel_rfl) z z (yi_run ((wanted_eq z z z (cvb hc2412)).trans z) (fun w hst => x_len z underlying22 (ro_sliceV f2408))) (ws_q (v := .int .i64 (Int.tmod (i64.wrap a2) (20:Int))) 30 [31, 32, 33, 34, 35, 36, 37, 38, 39, 40, 41, 42, 43, 44, 45, 46, 47, 48] (by kernel_rfl) z z (yi_run ((wanted_eq z z z (cvb hc2412)).trans z) (fun w hst => z)) (ws_q (v := .bool (((x2399.W.Val).length : Int) != (Int.tmod (i64.wrap a2) (20:Int)))) 31 [32, 33, 34, 35, 36, 37, 38, 39, 40, 41, 42, 43, 44, 45, 46, 47, 48] (by kernel_rfl) z z (yi_run ((wanted_eq z z z (cvb hc2412)).trans z) (fun w hst => z)) (wsr (.bool (((x2399.W.Val).length : Int) != (Int.tmod (i64.wrap a2) (20:Int)))) 32 z z z (by kernel_rfl) (fun w hst => x_pick_f hc2412 z z) (wsr (.bool (((x2399.W.Val).length : Int) != (Int.tmod (i64.wrap a2) (20:Int)))) 33 z z z (by kernel_rfl) (fun w hst => z) ?_))))))))))
 refine bsplit (((x2399.W.Val).length : Int) != (Int.tmod (i64.wrap a2) (20:Int))) (fun hc2413 => ?_) (fun hc2413 => ?_)
 {
 replace hm := bif_t hc2413 hm
 refine ws_q (v := undef) 34 [35, 36, 37, 38, 39, 40, 41, 42, 43, 44, 45, 46, 47, 48] (by kernel_rfl) z z (yi_off ((wanted_eq z z z (cvb hc2413)).trans z)) (ws_q (v := undef) 35 [36, 37, 38, 39, 40, 41, 42, 43, 44, 45, 46, 47, 48] (by kernel_rfl) z z (yi_off ((wanted_eq z z z (cvb hc2413)).trans z)) (ws_q (v := undef) 36 [37, 38, 39, 40, 41, 42, 43, 44, 45, 46, 47, 48] (by kernel_rfl) z z (yi_off ((wanted_eq z z z (cvb hc2413)).trans z)) (ws_q (v := undef) 37 [38, 39, 40, 41, 42, 43, 44, 45, 46, 47, 48] (by kernel_rfl) z z (yi_off ((wanted_eq z z z (cvb hc2413)).trans z)) (ws_q (v := undef) 38 [39, 40, 41, 42, 43, 44, 45, 46, 47, 48] (by kernel_rfl) z z (yi_off ((wanted_eq z z z (cvb hc2413)).trans z)) (ws_q (v := undef) 39 [40, 41, 42, 43, 44, 45, 46, 47, 48] (by kernel_rfl) z z (yi_off ((wanted_eq z z z (cvb hc2413)).trans z)) (ws_q (v := undef) 40 [41, 42, 43, 44, 45, 46, 47, 48] (by kernel_rfl) z z (yi_off ((wanted_eq z z z (cvb hc2413)).trans z)) (ws_q (v := undef) 41 [42, 43, 44, 45, 46, 47, 48] (by kernel_rfl) z z (yi_off ((wanted_eq z z z (cvb hc2413)).trans z)) (ws_q (v := undef) 42 [43, 44, 45, 46, 47, 48] (by kernel_rfl) z z (yi_off ((wanted_eq z z z (cvb hc2413)).trans z)) (ws_q (v := undef) 43 [44, 45, 46, 47, 48] (by kernel_rfl) z z (yi_off ((wanted_eq z z z (cvb hc2413)).trans z)) (ws_q (v := undef) 44 [45, 46, 47, 48] (by kernel_rfl) z z (yi_off ((wanted_eq z z z (cvb hc2413)).trans z)) (ws_q (v := undef) 45 [46, 47, 48] (by kernel_rfl) z z (yi_off ((wanted_eq z z z (cvb hc2413)).trans z)) (ws_q (v := undef) 46 [47, 48] (by kernel_rfl) z z (yi_off ((wanted_eq z z z (cvb hc2413)).trans z)) ?_))))))))))))
 refine ws_q (v := undef) 47 [48] (by kernel_rfl) z z (yi_off ((wanted_eq z z z (cvb hc2413)).trans z)) (wsr (.bool true) 48 z z z (by kernel_rfl) (fun w hst => x_pick_t hc2413 z z) ?_)
 refine ws_nil ?_
 intro w hst
 replace hst := hst.own_close hq2398
 refine tn ?_
 refine wp_ift z ?_
 refine wp_seq (wrl (wv (.bool false) z z z (wl_nil (tn (wp_ret (blk_r (then_r (then_r ?_))))))))
 replace hm := inr_up hm hx2394
 refine blk_r (then_r ?_)
 obtain rfl := some_inj hm
 refine post_ret (vs := [.bool false]) results3 (rvs_cons (rv_tmp z) rvs_nil) ?_
 exact ⟨_, z, hI0, hst.keep0⟩
}
 {
 replace hm := bif_f hc2413 hm
 refine ws_q (v := v2156) 34 [35, 36, 37, 38, 39, 40, 41, 42, 43, 44, 45, 46, 47, 48] (by kernel_rfl) rfl rfl (yi_run ((wanted_eq rfl rfl rfl (cvb hc2413)).trans rfl) (fun w hst => rfl)) (ws_q (v := .int .i64 z2387) 35 [36, 37, 38, 39, 40, 41, 42, 43, 44, 45, 46, 47, 48] (by kernel_rfl) rfl rfl (yi_run ((wanted_eq rfl rfl rfl (cvb hc2413)).trans rfl) (fun w hst => rfl)) (ws_q (v := .pointer (some (eAddr v2156 (z2387.toNat * 7 + 0)))) 36 [37, 38, 39, 40, 41, 42, 43, 44, 45, 46, 47, 48] (by kernel_rfl) rfl rfl (yi_run ((wanted_eq rfl rfl rfl (cvb hc2413)).trans rfl) (fun w hst => x_index rfl rfl underlying50 sizeOf53 (hst.rsv 0 rfl hq2398) h2401 h2402)) (ws_q (v := .pointer (some (eAddr v2156 (z2387.toNat * 7 + 4)))) 37 [38, 39, 40, 41, 42, 43, 44, 45, 46, 47, 48] (by kernel_rfl) rfl rfl (yi_run ((wanted_eq rfl rfl rfl (cvb hc2413)).trans rfl) (fun w hst => x_field_e rfl underlying53 rfl sizeOf41 rfl)) (ws_q (v := .pointer (some (eAddr v2156 (z2387.toNat * 7 + 6)))) 38 [39, 40, 41, 42, 43, 44, 45, 46, 47, 48] (by kernel_rfl) rfl rfl (yi_run ((wanted_eq rfl rfl rfl (cvb hc2413)).trans rfl) (fun w hst => x_field_e rfl underlying41 rfl sizeOf22 rfl)) (ws_q (v := v2407) 39 [40, 41, 42, 43, 44, 45, 46, 47, 48] (by kernel_rfl) rfl rfl (yi_run ((wanted_eq rfl rfl rfl (cvb hc2413)).trans rfl) (fun w hst => x_load rfl isAgg22 ((hst.rcell 0 rfl hc2406) 6 _ rfl))) (ws_q (v := .string (toStr x2399.W.Val)) 40 [41, 42, 43, 44, 45, 46, 47, 48] (by kernel_rfl) rfl rfl (yi_run ((wanted_eq rfl rfl rfl (cvb hc2413)).trans rfl) (fun w hst => x_tostr underlying22 underlying9 underlying5 rfl (Src.of_ro hst f2408))) (ws_q (v := r3_0) 41 [42, 43, 44, 45, 46, 47, 48] (by kernel_rfl) rfl rfl (yi_run ((wanted_eq rfl rfl rfl (cvb hc2413)).trans rfl) (fun w hst => rfl)) (ws_q (v := .agg #[Zf, .bool false, r3_0]) 42 [43, 44, 45, 46, 47, 48] (by kernel_rfl) rfl rfl (yi_run ((wanted_eq rfl rfl rfl (cvb hc2413)).trans rfl) (fun w hst => by obtain ⟨_, _, hv_, _⟩ := (ro_sliceV f3_0); rw [hv_]; kernel_rfl)) (ws_q (v := .int .i64 (Int.tmod (i64.wrap a2) (20:Int))) 43 [44, 45, 46, 47, 48] (by kernel_rfl) rfl rfl (yi_run ((wanted_eq rfl rfl rfl (cvb hc2413)).trans rfl) (fun w hst => rfl)) ?_)))))))))
 refine ws_e1 44 (by kernel_rfl) ?_
 refine nxe [45, 46, 47, 48] (by kernel_rfl) z ((wanted_eq z z z (cvb hc2413)).trans z) ?_
 clear hst
 intro w hst
 obtain ⟨t2415, ht2416, hm⟩ := bind_some hm
 refine wec call16 [.agg #[Zf, .bool false, r3_0], I6 (Int.tmod (i64.wrap a2) (20:Int))] z z ?_
 refine (ref16_Pad_ref (a0 := ({ At := (0:Nat), Del := false, Val := a3 } : api_Write)) (f3_0.mono ro_rd) hst.to0 ht2416).mono ?_
 rintro _ w2417 ⟨v2420, rfl, hst⟩
 refine ⟨_, z, ?_⟩
 replace hst := hst.of1
 refine ws_next (pend' := [(40, .string (toStr x2399.W.Val)), (39, v2407), (38, .pointer (some (eAddr v2156 (z2387.toNat * 7 + 6)))), (37, .pointer (some (eAddr v2156 (z2387.toNat * 7 + 4)))), (36, .pointer (some (eAddr v2156 (z2387.toNat * 7 + 0)))), (35, I6 z2387), (34, v2156)]) hst (by kernel_rfl) (pk_cons z (yi_run ((wanted_eq z z z (cvb hc2413)).trans z) (fun w hst => x_tostr underlying22 underlying9 underlying5 z (Src.of_ro hst f2408))) (pk_cons z (yi_run ((wanted_eq z z z (cvb hc2413)).trans z) (fun w hst => x_load z isAgg22 ((hst.rcell 1 z hc2406) 6 _ z))) (pk_cons z (yi_run ((wanted_eq z z z (cvb hc2413)).trans z) (fun w hst => x_field_e z underlying41 z sizeOf22 z)) (pk_cons z (yi_run ((wanted_eq z z z (cvb hc2413)).trans z) (fun w hst => x_field_e z underlying53 z sizeOf41 z)) (pk_cons z (yi_run ((wanted_eq z z z (cvb hc2413)).trans z) (fun w hst => x_index z z underlying50 sizeOf53 (hst.rsv 1 z hq2398) h2401 h2402)) (pk_cons z (yi_run ((wanted_eq z z z (cvb hc2413)).trans z) (fun w hst => z)) (pk_cons z (yi_run ((wanted_eq z z z (cvb hc2413)).trans z) (fun w hst => z)) pk_nil))))))) ?_
 refine ws_q (v := v2420) 45 [46, 47, 48] (by kernel_rfl) rfl rfl (yi_run ((wanted_eq rfl rfl rfl (cvb hc2413)).trans rfl) (fun w hst => by obtain ⟨_, _, hv_, _⟩ := hst.sv0; rw [hv_]; kernel_rfl)) (ws_q (v := .string (toStr t2415.Val)) 46 [47, 48] (by kernel_rfl) rfl rfl (yi_run ((wanted_eq rfl rfl rfl (cvb hc2413)).trans rfl) (fun w hst => x_tostr underlying22 underlying9 underlying5 rfl hst.src0)) (ws_q (v := .bool (!(sEq (toStr x2399.W.Val) (toStr t2415.Val)))) 47 [48] (by kernel_rfl) rfl rfl (yi_run ((wanted_eq rfl rfl rfl (cvb hc2413)).trans rfl) (fun w hst => by kernel_rfl)) (wsr (.bool (!(sEq (toStr x2399.W.Val) (toStr t2415.Val)))) 48 rfl rfl rfl (by kernel_rfl) (fun w hst => x_pick_f hc2413 rfl rfl) ?_)))
 refine ws_nil ?_
 intro w hst
 replace hst := hst.pull1.own_close hq2398
 refine tn ?_
 refine bsplit (!(sEq (toStr x2399.W.Val) (toStr t2415.Val))) (fun hc2422 => ?_) (fun hc2422 => ?_)
 {
 replace hm := bif_t hc2422 hm
 refine wp_ift (cvb hc2422) ?_
 refine wp_seq (wrl (wv (.bool false) z z z (wl_nil (tn (wp_ret (blk_r (then_r (then_r ?_))))))))
 replace hm := inr_up hm hx2394
 refine blk_r (then_r ?_)
 obtain rfl := some_inj hm
 refine post_ret (vs := [.bool false]) results3 (rvs_cons (rv_tmp z) rvs_nil) ?_
 exact ⟨_, z, hI0, hst.keep0⟩
}
 {
 replace hm := bif_f hc2422 hm
 refine wp_iff (cvb hc2422) ?_
 refine wp_skip (blk_n (tn (wrl ?_)))
 refine wv (.int .i64 z2387) z z z (wv (.int .i64 (i64.wrap (z2387 + (1:Int)))) z z z (wv (.int .i64 (i64.wrap (z2387 + (1:Int)))) z z z (wl_nil (tn ?_))))
 replace hst := hst.keep1
 obtain rfl := some_inj hm
 exact ⟨_, Nat.lt_succ_self _, (i64.wrap (z2387 + (1:Int))), _, hx2394, (fu 3 r3_0 z (fu 9 (.int .i64 (Int.tmod (i64.wrap a2) (20:Int))) z (fu 17 (.int .i64 z1988) z (fu 18 v2156 z (fu 19 (.int .i64 (i64.wrap (z2387 + (1:Int)))) z z))))), hst⟩
}
}
}
}
}
 {
 replace hm := bif_f hc2396 hm
 refine wp_iff (cvb hc2396) ?_
 refine wp_exit (then_x (then_x ?_))
 replace hm := inr_up hm hx2394
 refine blk_x (tn (wp_seq (wrl ?_)))
 refine wv (.bool true) z z z (wl_nil (tn (wp_ret ?_)))
 obtain rfl := some_inj hm
 refine post_ret (vs := [.bool true]) results3 (rvs_cons (rv_tmp z) rvs_nil) ?_
 exact ⟨_, z, hI0, hst.keep0⟩
}
}
}
}
}
}
}
}

end Go.Proofs.YtgnkkopjkgdieaaGreat
