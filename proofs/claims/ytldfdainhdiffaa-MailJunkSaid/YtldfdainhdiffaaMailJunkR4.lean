/- The Go functions refine their models, part 4. -/
import Derived.Test.YtldfdainhdiffaaMailJunkR3
set_option linter.unusedVariables false
set_option linter.unusedSimpArgs false
set_option maxRecDepth 100000
set_option maxHeartbeats 4000000
namespace Go.Proofs.Ytldfdainhdiffaa
open Go Go.V
attribute [local irreducible] wpList Code.wp wpQuiet Calls bodyPost Oper.wp wpS Nx PendOK YieldsIn
theorem law17_MailJunk_ref {w0 w : World} {I : HL} {R : SP} {a0 : (List Int)} {r0_0 : Value} {a1 : (List Int)} {r1_0 : Value} {a2 : Int} {a3 : Int} (f0_0 : Ro (tyInt .u8) I r0_0 a0) (f1_0 : Ro (tyInt .u8) I r1_0 a1) (hst : St w0 w I [] R) {r : (Bool)} (hm : law17_MailJunk a0 a1 a2 a3 = some r) :
  Calls Try.prog 3 #[r0_0, r1_0, .int .u16 a2, .int .u8 a3] w fun e w' => ∃ (I' : HL), e = .returned (.bool r) ∧ I.le I' ∧ St w0 w' I' [] R := by
 unfold law17_MailJunk at hm
 refine calls_start (args := [r0_0, r1_0, .int .u16 a2, .int .u8 a3]) Try.func3 rfl Try.ntmps3 (Nat.le_of_ble_eq_true rfl) ?_
 have hI0 := HL.le.refl I
 refine wp_seq (wp_region_lit ?_)
 refine wv (.bool false) rfl rfl rfl ?_
 refine wl_nil (then_n (wp_seq (wp_seq (wp_region_lit ?_))))
 obtain ⟨t336, ht337, hm⟩ := bind_some hm
 refine wl_call rfl rfl (x_call Try.call6 rfl (vs := []) rfl) ?_
 refine (law17_awake_ref hst.to0 ht337).mono ?_
 rintro _ w338 ⟨rfl, hst⟩
 refine ⟨_, rfl, ?_⟩
 replace hst := hst.of0
 refine wv (.bool (!t336)) rfl rfl rfl ?_
 refine wv (.bool (!t336)) rfl rfl rfl ?_
 refine bsplit (!t336) (fun hc341 => ?_) (fun hc341 => ?_)
 ·skip
  replace hm := bif_t hc341 hm
  refine wo hc341 rfl rfl rfl rfl rfl rfl ?_
  refine wo hc341 rfl rfl rfl rfl rfl rfl ?_
  refine wo hc341 rfl rfl rfl rfl rfl rfl ?_
  refine wv (.bool true) rfl rfl (x_pick_t hc341 rfl rfl) ?_
  refine wv (.bool true) rfl rfl rfl ?_
  refine wl_off ((wanted_eq rfl rfl rfl rfl).trans rfl) rfl ?_
  refine wl_off ((wanted_eq rfl rfl rfl rfl).trans rfl) rfl ?_
  refine wl_off ((wanted_eq rfl rfl rfl rfl).trans rfl) rfl ?_
  refine wv (.bool true) rfl rfl (x_pick_t rfl rfl rfl) ?_
  refine wl_nil (then_n ?_)
  refine wp_ift rfl ?_
  refine wp_seq (wp_region_lit ?_)
  obtain ⟨t342, ht343, hm⟩ := bind_some hm
  refine wl_call rfl rfl (x_call Try.call6 rfl (vs := []) rfl) ?_
  refine (law17_awake_ref hst.to0 ht343).mono ?_
  rintro _ w344 ⟨rfl, hst⟩
  refine ⟨_, rfl, ?_⟩
  replace hst := hst.of0
  refine wv (.bool t342) rfl rfl rfl ?_
  refine wl_nil (then_n (wp_ret (then_r ?_)))
  obtain rfl := some_inj hm
  refine post_ret (vs := [.bool t342]) Try.results3 (rvs_cons (rv_tmp rfl) rvs_nil) ?_
  exact ⟨_, rfl, hI0, hst.keep0⟩
 ·skip
  replace hm := bif_f hc341 hm
  refine wv (r0_0) ((wanted_eq rfl rfl rfl (congrArg Value.bool hc341)).trans rfl) rfl rfl ?_
  refine wv (.int .i64 ((a0).length : Int)) ((wanted_eq rfl rfl rfl (congrArg Value.bool hc341)).trans rfl) rfl (x_len rfl Try.underlying22 (ro_sliceV f0_0)) ?_
  refine wv (.bool (decide (((a0).length : Int) > (1000:Int)))) ((wanted_eq rfl rfl rfl (congrArg Value.bool hc341)).trans rfl) rfl rfl ?_
  refine wv (.bool (decide (((a0).length : Int) > (1000:Int)))) rfl rfl (x_pick_f hc341 rfl rfl) ?_
  refine wv (.bool (decide (((a0).length : Int) > (1000:Int)))) rfl rfl rfl ?_
  refine bsplit (decide (((a0).length : Int) > (1000:Int))) (fun hc347 => ?_) (fun hc347 => ?_)
  ·skip
   replace hm := bif_t hc347 hm
   refine wo hc347 rfl rfl rfl rfl rfl rfl ?_
   refine wo hc347 rfl rfl rfl rfl rfl rfl ?_
   refine wo hc347 rfl rfl rfl rfl rfl rfl ?_
   refine wv (.bool true) rfl rfl (x_pick_t hc347 rfl rfl) ?_
   refine wl_nil (then_n ?_)
   refine wp_ift rfl ?_
   refine wp_seq (wp_region_lit ?_)
   obtain ⟨t348, ht349, hm⟩ := bind_some hm
   refine wl_call rfl rfl (x_call Try.call6 rfl (vs := []) rfl) ?_
   refine (law17_awake_ref hst.to0 ht349).mono ?_
   rintro _ w350 ⟨rfl, hst⟩
   refine ⟨_, rfl, ?_⟩
   replace hst := hst.of0
   refine wv (.bool t348) rfl rfl rfl ?_
   refine wl_nil (then_n (wp_ret (then_r ?_)))
   obtain rfl := some_inj hm
   refine post_ret (vs := [.bool t348]) Try.results3 (rvs_cons (rv_tmp rfl) rvs_nil) ?_
   exact ⟨_, rfl, hI0, hst.keep0⟩
  ·skip
   replace hm := bif_f hc347 hm
   refine wv (r1_0) ((wanted_eq rfl rfl rfl (congrArg Value.bool hc347)).trans rfl) rfl rfl ?_
   refine wv (.int .i64 ((a1).length : Int)) ((wanted_eq rfl rfl rfl (congrArg Value.bool hc347)).trans rfl) rfl (x_len rfl Try.underlying22 (ro_sliceV f1_0)) ?_
   refine wv (.bool (decide (((a1).length : Int) > (200:Int)))) ((wanted_eq rfl rfl rfl (congrArg Value.bool hc347)).trans rfl) rfl rfl ?_
   refine wv (.bool (decide (((a1).length : Int) > (200:Int)))) rfl rfl (x_pick_f hc347 rfl rfl) ?_
   refine wl_nil (then_n ?_)
   refine bsplit (decide (((a1).length : Int) > (200:Int))) (fun hc353 => ?_) (fun hc353 => ?_)
   ·skip
    replace hm := bif_t hc353 hm
    refine wp_ift (congrArg Value.bool hc353) ?_
    refine wp_seq (wp_region_lit ?_)
    obtain ⟨t354, ht355, hm⟩ := bind_some hm
    refine wl_call rfl rfl (x_call Try.call6 rfl (vs := []) rfl) ?_
    refine (law17_awake_ref hst.to0 ht355).mono ?_
    rintro _ w356 ⟨rfl, hst⟩
    refine ⟨_, rfl, ?_⟩
    replace hst := hst.of0
    refine wv (.bool t354) rfl rfl rfl ?_
    refine wl_nil (then_n (wp_ret (then_r ?_)))
    obtain rfl := some_inj hm
    refine post_ret (vs := [.bool t354]) Try.results3 (rvs_cons (rv_tmp rfl) rvs_nil) ?_
    exact ⟨_, rfl, hI0, hst.keep0⟩
   ·skip
    replace hm := bif_f hc353 hm
    refine wp_iff (congrArg Value.bool hc353) ?_
    refine wp_skip (then_n (wp_seq (wp_region_lit ?_)))
    refine wv (r0_0) rfl rfl rfl ?_
    obtain ⟨t359, ht360, hm⟩ := bind_some hm
    refine wl_call rfl rfl (x_call Try.call7 rfl (vs := [r0_0]) rfl) ?_
    refine (mail_Decode_ref f0_0 hst.to0 ht360).mono ?_
    rintro _ w361 ⟨I362, v364, v366, v368, v370, v372, v374, v376, v378, v380, v382, v384, v386, v388, v390, v392, v394, rfl, hI363, hst⟩
    refine ⟨_, rfl, ?_⟩
    replace hst := hst.of16
    replace f0_0 := f0_0.mono (ro_le hI363)
    replace f1_0 := f1_0.mono (ro_le hI363)
    replace hI0 := hI0.trans hI363
    refine wv (.tuple #[.agg #[.int .u8 t359.1.Kind, .int .u8 t359.1.M.Kind, .int .i64 t359.1.M.From, .int .i64 t359.1.M.To, .int .u64 t359.1.M.Term, .int .u64 t359.1.M.Index, .int .u64 t359.1.M.LogTerm, .int .u64 t359.1.M.Commit, .bool t359.1.M.OK, v364, .int .u64 t359.1.M.S.Index, .int .u64 t359.1.M.S.Term, .int .u64 t359.1.M.S.Voters, v366, .int .u64 t359.1.H.ID.Session, .int .u64 t359.1.H.ID.Seq, .int .u64 t359.1.H.Epoch, v368, v370, v372, v374, .int .u64 t359.1.ID.Session, .int .u64 t359.1.ID.Seq, .int .i64 t359.1.R.E, .int .u64 t359.1.R.Epoch, .int .u64 t359.1.R.Index, v376, v378, .int .u8 t359.1.C.Kind, .int .u64 t359.1.C.ID.Session, .int .u64 t359.1.C.ID.Seq, .int .u64 t359.1.C.Epoch, .int .u64 t359.1.C.Index, .int .i64 t359.1.C.E, .int .u64 t359.1.C.Hold.ID.Session, .int .u64 t359.1.C.Hold.ID.Seq, .int .u64 t359.1.C.Hold.Epoch, v380, v382, v384, v386, v388, .int .i64 t359.1.C.R.E, .int .u64 t359.1.C.R.Epoch, .int .u64 t359.1.C.R.Index, v390, v392, .int .u64 t359.1.C.Shards, v394, .int .u64 t359.1.C.Rule.ID, .int .i64 t359.1.C.Rule.From, .int .i64 t359.1.C.Rule.To, .float .f64 t359.1.C.Rule.Lo, .float .f64 t359.1.C.Rule.Hi, .int .u64 t359.1.C.Rule.Authority, .int .i64 t359.1.C.Rule.Quota, .bool t359.1.C.On], .int .i64 t359.2]) rfl rfl rfl ?_
    refine wv (.agg #[.int .u8 t359.1.Kind, .int .u8 t359.1.M.Kind, .int .i64 t359.1.M.From, .int .i64 t359.1.M.To, .int .u64 t359.1.M.Term, .int .u64 t359.1.M.Index, .int .u64 t359.1.M.LogTerm, .int .u64 t359.1.M.Commit, .bool t359.1.M.OK, v364, .int .u64 t359.1.M.S.Index, .int .u64 t359.1.M.S.Term, .int .u64 t359.1.M.S.Voters, v366, .int .u64 t359.1.H.ID.Session, .int .u64 t359.1.H.ID.Seq, .int .u64 t359.1.H.Epoch, v368, v370, v372, v374, .int .u64 t359.1.ID.Session, .int .u64 t359.1.ID.Seq, .int .i64 t359.1.R.E, .int .u64 t359.1.R.Epoch, .int .u64 t359.1.R.Index, v376, v378, .int .u8 t359.1.C.Kind, .int .u64 t359.1.C.ID.Session, .int .u64 t359.1.C.ID.Seq, .int .u64 t359.1.C.Epoch, .int .u64 t359.1.C.Index, .int .i64 t359.1.C.E, .int .u64 t359.1.C.Hold.ID.Session, .int .u64 t359.1.C.Hold.ID.Seq, .int .u64 t359.1.C.Hold.Epoch, v380, v382, v384, v386, v388, .int .i64 t359.1.C.R.E, .int .u64 t359.1.C.R.Epoch, .int .u64 t359.1.C.R.Index, v390, v392, .int .u64 t359.1.C.Shards, v394, .int .u64 t359.1.C.Rule.ID, .int .i64 t359.1.C.Rule.From, .int .i64 t359.1.C.Rule.To, .float .f64 t359.1.C.Rule.Lo, .float .f64 t359.1.C.Rule.Hi, .int .u64 t359.1.C.Rule.Authority, .int .i64 t359.1.C.Rule.Quota, .bool t359.1.C.On]) rfl rfl rfl ?_
    refine wv (.int .i64 t359.2) rfl rfl rfl ?_
    obtain ⟨b412, w413, ew414, eb415, hst⟩ := hst.box [.int .u8 (0:Int), .int .u8 (0:Int), .int .i64 (0:Int), .int .i64 (0:Int), .int .u64 (0:Int), .int .u64 (0:Int), .int .u64 (0:Int), .int .u64 (0:Int), .bool false, (.slice none 0 0), .int .u64 (0:Int), .int .u64 (0:Int), .int .u64 (0:Int), (.slice none 0 0), .int .u64 (0:Int), .int .u64 (0:Int), .int .u64 (0:Int), (.slice none 0 0), (.slice none 0 0), (.slice none 0 0), (.slice none 0 0), .int .u64 (0:Int), .int .u64 (0:Int), .int .i64 (0:Int), .int .u64 (0:Int), .int .u64 (0:Int), (.slice none 0 0), (.slice none 0 0), .int .u8 (0:Int), .int .u64 (0:Int), .int .u64 (0:Int), .int .u64 (0:Int), .int .u64 (0:Int), .int .i64 (0:Int), .int .u64 (0:Int), .int .u64 (0:Int), .int .u64 (0:Int), (.slice none 0 0), (.slice none 0 0), (.slice none 0 0), (.slice none 0 0), (.slice none 0 0), .int .i64 (0:Int), .int .u64 (0:Int), .int .u64 (0:Int), (.slice none 0 0), (.slice none 0 0), .int .u64 (0:Int), (.slice none 0 0), .int .u64 (0:Int), .int .i64 (0:Int), .int .i64 (0:Int), .float .f64 (0:Nat), .float .f64 (0:Nat), .int .u64 (0:Int), .int .i64 (0:Int), .bool false] 50
    refine wl_run (v := .pointer (some ⟨b412, 0, none⟩)) (w' := w413) rfl rfl (x_al (by kernel_rfl) ew414 eb415) ?_
    obtain ⟨w417, hr418, hst⟩ := hst.boxStore (P := Try.prog) (t := 50) (cs' := [.int .u8 t359.1.Kind, .int .u8 t359.1.M.Kind, .int .i64 t359.1.M.From, .int .i64 t359.1.M.To, .int .u64 t359.1.M.Term, .int .u64 t359.1.M.Index, .int .u64 t359.1.M.LogTerm, .int .u64 t359.1.M.Commit, .bool t359.1.M.OK, v364, .int .u64 t359.1.M.S.Index, .int .u64 t359.1.M.S.Term, .int .u64 t359.1.M.S.Voters, v366, .int .u64 t359.1.H.ID.Session, .int .u64 t359.1.H.ID.Seq, .int .u64 t359.1.H.Epoch, v368, v370, v372, v374, .int .u64 t359.1.ID.Session, .int .u64 t359.1.ID.Seq, .int .i64 t359.1.R.E, .int .u64 t359.1.R.Epoch, .int .u64 t359.1.R.Index, v376, v378, .int .u8 t359.1.C.Kind, .int .u64 t359.1.C.ID.Session, .int .u64 t359.1.C.ID.Seq, .int .u64 t359.1.C.Epoch, .int .u64 t359.1.C.Index, .int .i64 t359.1.C.E, .int .u64 t359.1.C.Hold.ID.Session, .int .u64 t359.1.C.Hold.ID.Seq, .int .u64 t359.1.C.Hold.Epoch, v380, v382, v384, v386, v388, .int .i64 t359.1.C.R.E, .int .u64 t359.1.C.R.Epoch, .int .u64 t359.1.C.R.Index, v390, v392, .int .u64 t359.1.C.Shards, v394, .int .u64 t359.1.C.Rule.ID, .int .i64 t359.1.C.Rule.From, .int .i64 t359.1.C.Rule.To, .float .f64 t359.1.C.Rule.Lo, .float .f64 t359.1.C.Rule.Hi, .int .u64 t359.1.C.Rule.Authority, .int .i64 t359.1.C.Rule.Quota, .bool t359.1.C.On]) 0 (.agg #[.int .u8 t359.1.Kind, .int .u8 t359.1.M.Kind, .int .i64 t359.1.M.From, .int .i64 t359.1.M.To, .int .u64 t359.1.M.Term, .int .u64 t359.1.M.Index, .int .u64 t359.1.M.LogTerm, .int .u64 t359.1.M.Commit, .bool t359.1.M.OK, v364, .int .u64 t359.1.M.S.Index, .int .u64 t359.1.M.S.Term, .int .u64 t359.1.M.S.Voters, v366, .int .u64 t359.1.H.ID.Session, .int .u64 t359.1.H.ID.Seq, .int .u64 t359.1.H.Epoch, v368, v370, v372, v374, .int .u64 t359.1.ID.Session, .int .u64 t359.1.ID.Seq, .int .i64 t359.1.R.E, .int .u64 t359.1.R.Epoch, .int .u64 t359.1.R.Index, v376, v378, .int .u8 t359.1.C.Kind, .int .u64 t359.1.C.ID.Session, .int .u64 t359.1.C.ID.Seq, .int .u64 t359.1.C.Epoch, .int .u64 t359.1.C.Index, .int .i64 t359.1.C.E, .int .u64 t359.1.C.Hold.ID.Session, .int .u64 t359.1.C.Hold.ID.Seq, .int .u64 t359.1.C.Hold.Epoch, v380, v382, v384, v386, v388, .int .i64 t359.1.C.R.E, .int .u64 t359.1.C.R.Epoch, .int .u64 t359.1.C.R.Index, v390, v392, .int .u64 t359.1.C.Shards, v394, .int .u64 t359.1.C.Rule.ID, .int .i64 t359.1.C.Rule.From, .int .i64 t359.1.C.Rule.To, .float .f64 t359.1.C.Rule.Lo, .float .f64 t359.1.C.Rule.Hi, .int .u64 t359.1.C.Rule.Authority, .int .i64 t359.1.C.Rule.Quota, .bool t359.1.C.On]) Try.sizeOf50 (Nat.le_of_ble_eq_true rfl) (ones_cons rfl (ones_cons rfl (ones_cons rfl (ones_cons rfl (ones_cons rfl (ones_cons rfl (ones_cons rfl (ones_cons rfl (ones_cons rfl (ones_cons (one_of_sliceV hst.sv1) (ones_cons rfl (ones_cons rfl (ones_cons rfl (ones_cons (one_of_sliceV hst.sv2) (ones_cons rfl (ones_cons rfl (ones_cons rfl (ones_cons (one_of_sliceV hst.sv3) (ones_cons (one_of_sliceV hst.sv4) (ones_cons (one_of_sliceV hst.sv5) (ones_cons (one_of_sliceV hst.sv6) (ones_cons rfl (ones_cons rfl (ones_cons rfl (ones_cons rfl (ones_cons rfl (ones_cons (one_of_sliceV hst.sv7) (ones_cons (one_of_sliceV hst.sv8) (ones_cons rfl (ones_cons rfl (ones_cons rfl (ones_cons rfl (ones_cons rfl (ones_cons rfl (ones_cons rfl (ones_cons rfl (ones_cons rfl (ones_cons (one_of_sliceV hst.sv9) (ones_cons (one_of_sliceV hst.sv10) (ones_cons (one_of_sliceV hst.sv11) (ones_cons (one_of_sliceV hst.sv12) (ones_cons (one_of_sliceV hst.sv13) (ones_cons rfl (ones_cons rfl (ones_cons rfl (ones_cons (one_of_sliceV hst.sv14) (ones_cons (one_of_sliceV hst.sv15) (ones_cons rfl (ones_cons (one_of_sliceV hst.sv16) (ones_cons rfl (ones_cons rfl (ones_cons rfl (ones_cons rfl (ones_cons rfl (ones_cons rfl (ones_cons rfl (ones_cons rfl ones_nil))))))))))))))))))))))))))))))))))))))))))))))))))))))))) (by kernel_rfl)
    refine wl_unit rfl rfl (x_unit hr418) ?_
    refine wv (.int .i64 t359.2) rfl rfl rfl ?_
    refine wl_nil (then_n ?_)
    obtain ⟨y468, hm, hx469⟩ := joinO_some hm
    refine wp_cut (fun a w => ∃ (σ466 : Nat → Value), (law17_MailJunk_j0 a1 a2 a3) () = some r ∧ a = Fr 94 (upd (upd (upd σ466 1 (r1_0)) 2 (.int .u16 a2)) 3 (.int .u8 a3)) ∧ St w0 w I362 [] R) ?_ ?_
    ·skip
     refine wp_seq ?_
     refine wp_region_St hst 23 [0, 1, 2, 3, 4, 5, 6, 7, 8, 9, 10, 11, 12, 13, 14, 15, 16, 17, 18, 19, 20, 21, 22] [0, 1, 3, 7, 15, 31, 7, 71, 255, 511, 1023, 2047, 4095, 8191, 16383, 32767, 65535, 131071, 262143, 524287, 1048575, 2097151, 4194303] [] rfl (by kernel_rfl) (by kernel_rfl) Try.mixed (by kernel_rfl) ?_
     refine wsr (.int .i64 t359.2) 0 rfl rfl rfl (by kernel_rfl) (fun w hst => rfl) ?_
     refine wsr (.bool (t359.2 == (0:Int))) 1 rfl rfl rfl (by kernel_rfl) (fun w hst => rfl) ?_
     refine wsr (.bool (t359.2 == (0:Int))) 2 rfl rfl rfl (by kernel_rfl) (fun w hst => rfl) ?_
     refine bsplit (t359.2 == (0:Int)) (fun hc419 => ?_) (fun hc419 => ?_)
     ·skip
      replace hm := bif_t hc419 hm
      refine ws_q (v := .agg #[.int .u8 t359.1.Kind, .int .u8 t359.1.M.Kind, .int .i64 t359.1.M.From, .int .i64 t359.1.M.To, .int .u64 t359.1.M.Term, .int .u64 t359.1.M.Index, .int .u64 t359.1.M.LogTerm, .int .u64 t359.1.M.Commit, .bool t359.1.M.OK, v364, .int .u64 t359.1.M.S.Index, .int .u64 t359.1.M.S.Term, .int .u64 t359.1.M.S.Voters, v366, .int .u64 t359.1.H.ID.Session, .int .u64 t359.1.H.ID.Seq, .int .u64 t359.1.H.Epoch, v368, v370, v372, v374, .int .u64 t359.1.ID.Session, .int .u64 t359.1.ID.Seq, .int .i64 t359.1.R.E, .int .u64 t359.1.R.Epoch, .int .u64 t359.1.R.Index, v376, v378, .int .u8 t359.1.C.Kind, .int .u64 t359.1.C.ID.Session, .int .u64 t359.1.C.ID.Seq, .int .u64 t359.1.C.Epoch, .int .u64 t359.1.C.Index, .int .i64 t359.1.C.E, .int .u64 t359.1.C.Hold.ID.Session, .int .u64 t359.1.C.Hold.ID.Seq, .int .u64 t359.1.C.Hold.Epoch, v380, v382, v384, v386, v388, .int .i64 t359.1.C.R.E, .int .u64 t359.1.C.R.Epoch, .int .u64 t359.1.C.R.Index, v390, v392, .int .u64 t359.1.C.Shards, v394, .int .u64 t359.1.C.Rule.ID, .int .i64 t359.1.C.Rule.From, .int .i64 t359.1.C.Rule.To, .float .f64 t359.1.C.Rule.Lo, .float .f64 t359.1.C.Rule.Hi, .int .u64 t359.1.C.Rule.Authority, .int .i64 t359.1.C.Rule.Quota, .bool t359.1.C.On]) 3 [4, 5, 6, 7, 8, 9, 10, 11, 12, 13, 14, 15, 16, 17, 18, 19, 20, 21, 22] (by kernel_rfl) rfl rfl (yi_run ((wanted_eq rfl rfl rfl (congrArg Value.bool hc419)).trans rfl) (fun w hst => x_loadN (cs := [.int .u8 t359.1.Kind, .int .u8 t359.1.M.Kind, .int .i64 t359.1.M.From, .int .i64 t359.1.M.To, .int .u64 t359.1.M.Term, .int .u64 t359.1.M.Index, .int .u64 t359.1.M.LogTerm, .int .u64 t359.1.M.Commit, .bool t359.1.M.OK, v364, .int .u64 t359.1.M.S.Index, .int .u64 t359.1.M.S.Term, .int .u64 t359.1.M.S.Voters, v366, .int .u64 t359.1.H.ID.Session, .int .u64 t359.1.H.ID.Seq, .int .u64 t359.1.H.Epoch, v368, v370, v372, v374, .int .u64 t359.1.ID.Session, .int .u64 t359.1.ID.Seq, .int .i64 t359.1.R.E, .int .u64 t359.1.R.Epoch, .int .u64 t359.1.R.Index, v376, v378, .int .u8 t359.1.C.Kind, .int .u64 t359.1.C.ID.Session, .int .u64 t359.1.C.ID.Seq, .int .u64 t359.1.C.Epoch, .int .u64 t359.1.C.Index, .int .i64 t359.1.C.E, .int .u64 t359.1.C.Hold.ID.Session, .int .u64 t359.1.C.Hold.ID.Seq, .int .u64 t359.1.C.Hold.Epoch, v380, v382, v384, v386, v388, .int .i64 t359.1.C.R.E, .int .u64 t359.1.C.R.Epoch, .int .u64 t359.1.C.R.Index, v390, v392, .int .u64 t359.1.C.Shards, v394, .int .u64 t359.1.C.Rule.ID, .int .i64 t359.1.C.Rule.From, .int .i64 t359.1.C.Rule.To, .float .f64 t359.1.C.Rule.Lo, .float .f64 t359.1.C.Rule.Hi, .int .u64 t359.1.C.Rule.Authority, .int .i64 t359.1.C.Rule.Quota, .bool t359.1.C.On]) rfl Try.isAgg50 Try.sizeOf50 (hst.bcs0 0 rfl))) ?_
      refine ws_q (v := r0_0) 6 [4, 5, 7, 8, 9, 10, 11, 12, 13, 14, 15, 16, 17, 18, 19, 20, 21, 22] (by kernel_rfl) rfl rfl (yi_run ((wanted_eq rfl rfl rfl (congrArg Value.bool hc419)).trans rfl) (fun w hst => rfl)) ?_
      refine ws_q (v := .string (toStr a0)) 7 [4, 5, 8, 9, 10, 11, 12, 13, 14, 15, 16, 17, 18, 19, 20, 21, 22] (by kernel_rfl) rfl rfl (yi_run ((wanted_eq rfl rfl rfl (congrArg Value.bool hc419)).trans rfl) (fun w hst => x_tostr Try.underlying22 Try.underlying9 Try.underlying5 rfl (Src.of_ro hst f0_0))) ?_
      refine ws_e1 4 (by kernel_rfl) ?_
      refine nxe [5, 8, 9, 10, 11, 12, 13, 14, 15, 16, 17, 18, 19, 20, 21, 22] (by kernel_rfl) rfl ((wanted_eq rfl rfl rfl (congrArg Value.bool hc419)).trans rfl) ?_
      clear hst
      intro w hst
      replace hst := hst.pull1
      obtain ⟨css420, hq421, hst⟩ := hst.own_open
      replace hst := hst.pull2
      obtain ⟨css422, hq423, hst⟩ := hst.own_open
      replace hst := hst.pull3
      obtain ⟨css424, hq425, hst⟩ := hst.own_open
      replace hst := hst.pull4
      obtain ⟨css426, hq427, hst⟩ := hst.own_open
      replace hst := hst.pull5
      obtain ⟨css428, hq429, hst⟩ := hst.own_open
      replace hst := hst.pull6
      obtain ⟨css430, hq431, hst⟩ := hst.own_open
      replace hst := hst.pull7
      obtain ⟨css432, hq433, hst⟩ := hst.own_open
      replace hst := hst.pull8
      obtain ⟨css434, hq435, hst⟩ := hst.own_open
      replace hst := hst.pull9
      obtain ⟨css436, hq437, hst⟩ := hst.own_open
      replace hst := hst.pull10
      obtain ⟨css438, hq439, hst⟩ := hst.own_open
      replace hst := hst.pull11
      obtain ⟨css440, hq441, hst⟩ := hst.own_open
      replace hst := hst.pull12
      obtain ⟨css442, hq443, hst⟩ := hst.own_open
      replace hst := hst.pull13
      obtain ⟨css444, hq445, hst⟩ := hst.own_open
      replace hst := hst.pull14
      obtain ⟨css446, hq447, hst⟩ := hst.own_open
      replace hst := hst.pull15
      obtain ⟨css448, hq449, hst⟩ := hst.own_open
      replace hst := hst.pull16
      obtain ⟨css450, hq451, hst⟩ := hst.own_open
      obtain ⟨t452, ht453, hm⟩ := bind_some hm
      refine we_call rfl (x_call Try.call8 rfl (vs := [.agg #[.int .u8 t359.1.Kind, .int .u8 t359.1.M.Kind, .int .i64 t359.1.M.From, .int .i64 t359.1.M.To, .int .u64 t359.1.M.Term, .int .u64 t359.1.M.Index, .int .u64 t359.1.M.LogTerm, .int .u64 t359.1.M.Commit, .bool t359.1.M.OK, v364, .int .u64 t359.1.M.S.Index, .int .u64 t359.1.M.S.Term, .int .u64 t359.1.M.S.Voters, v366, .int .u64 t359.1.H.ID.Session, .int .u64 t359.1.H.ID.Seq, .int .u64 t359.1.H.Epoch, v368, v370, v372, v374, .int .u64 t359.1.ID.Session, .int .u64 t359.1.ID.Seq, .int .i64 t359.1.R.E, .int .u64 t359.1.R.Epoch, .int .u64 t359.1.R.Index, v376, v378, .int .u8 t359.1.C.Kind, .int .u64 t359.1.C.ID.Session, .int .u64 t359.1.C.ID.Seq, .int .u64 t359.1.C.Epoch, .int .u64 t359.1.C.Index, .int .i64 t359.1.C.E, .int .u64 t359.1.C.Hold.ID.Session, .int .u64 t359.1.C.Hold.ID.Seq, .int .u64 t359.1.C.Hold.Epoch, v380, v382, v384, v386, v388, .int .i64 t359.1.C.R.E, .int .u64 t359.1.C.R.Epoch, .int .u64 t359.1.C.R.Index, v390, v392, .int .u64 t359.1.C.Shards, v394, .int .u64 t359.1.C.Rule.ID, .int .i64 t359.1.C.Rule.From, .int .i64 t359.1.C.Rule.To, .float .f64 t359.1.C.Rule.Lo, .float .f64 t359.1.C.Rule.Hi, .int .u64 t359.1.C.Rule.Authority, .int .i64 t359.1.C.Rule.Quota, .bool t359.1.C.On]]) rfl) ?_
      refine (mail_Encode_ref (hst.rdrow15 hq421) (hst.rdrow14 hq423) (hst.rdrow13 hq425) (hst.rdrow12 hq427) (hst.rdrow11 hq429) (hst.rdrow10 hq431) (hst.rdrow9 hq433) (hst.rdrow8 hq435) (hst.rdrow7 hq437) (hst.rdrow6 hq439) (hst.rdrow5 hq441) (hst.rdrow4 hq443) (hst.rdrow3 hq445) (hst.rdrow2 hq447) (hst.rdrow1 hq449) (hst.rdrow0 hq451) hst.to0 ht453).mono ?_
      rintro _ w454 ⟨v457, rfl, hst⟩
      refine ⟨_, rfl, ?_⟩
      replace hst := hst.of1
      replace hst := hst.pull16
      replace hst := hst.own_close hq421
      replace hst := hst.pull16
      replace hst := hst.own_close hq423
      replace hst := hst.pull16
      replace hst := hst.own_close hq425
      replace hst := hst.pull16
      replace hst := hst.own_close hq427
      replace hst := hst.pull16
      replace hst := hst.own_close hq429
      replace hst := hst.pull16
      replace hst := hst.own_close hq431
      replace hst := hst.pull16
      replace hst := hst.own_close hq433
      replace hst := hst.pull16
      replace hst := hst.own_close hq435
      replace hst := hst.pull16
      replace hst := hst.own_close hq437
      replace hst := hst.pull16
      replace hst := hst.own_close hq439
      replace hst := hst.pull16
      replace hst := hst.own_close hq441
      replace hst := hst.pull16
      replace hst := hst.own_close hq443
      replace hst := hst.pull16
      replace hst := hst.own_close hq445
      replace hst := hst.pull16
      replace hst := hst.own_close hq447
      replace hst := hst.pull16
      replace hst := hst.own_close hq449
      replace hst := hst.pull16
      replace hst := hst.own_close hq451
      refine ws_next (pend' := [(7, .string (toStr a0)), (6, r0_0)]) hst (by kernel_rfl) (pk_cons rfl (yi_run ((wanted_eq rfl rfl rfl (congrArg Value.bool hc419)).trans rfl) (fun w hst => x_tostr Try.underlying22 Try.underlying9 Try.underlying5 rfl (Src.of_ro hst f0_0))) (pk_cons rfl (yi_run ((wanted_eq rfl rfl rfl (congrArg Value.bool hc419)).trans rfl) (fun w hst => rfl)) pk_nil)) ?_
      refine ws_q (v := .string (toStr t452)) 5 [8, 9, 10, 11, 12, 13, 14, 15, 16, 17, 18, 19, 20, 21, 22] (by kernel_rfl) rfl rfl (yi_run ((wanted_eq rfl rfl rfl (congrArg Value.bool hc419)).trans rfl) (fun w hst => x_tostr Try.underlying22 Try.underlying9 Try.underlying5 rfl hst.src16)) ?_
      refine ws_q (v := .bool (!(sEq (toStr t452) (toStr a0)))) 8 [9, 10, 11, 12, 13, 14, 15, 16, 17, 18, 19, 20, 21, 22] (by kernel_rfl) rfl rfl (yi_run ((wanted_eq rfl rfl rfl (congrArg Value.bool hc419)).trans rfl) (fun w hst => by kernel_rfl)) ?_
      refine wsr (.bool (!(sEq (toStr t452) (toStr a0)))) 9 rfl rfl rfl (by kernel_rfl) (fun w hst => x_pick_t hc419 rfl rfl) ?_
      refine wsr (.bool (!(sEq (toStr t452) (toStr a0)))) 10 rfl rfl rfl (by kernel_rfl) (fun w hst => rfl) ?_
      refine bsplit (!(sEq (toStr t452) (toStr a0))) (fun hc459 => ?_) (fun hc459 => ?_)
      ·skip
       replace hm := bif_t hc459 hm
       refine ws_q (v := undef) 11 [12, 13, 14, 15, 16, 17, 18, 19, 20, 21, 22] (by kernel_rfl) rfl rfl (yi_off ((wanted_eq rfl rfl rfl (congrArg Value.bool hc459)).trans rfl)) ?_
       refine ws_q (v := undef) 12 [13, 14, 15, 16, 17, 18, 19, 20, 21, 22] (by kernel_rfl) rfl rfl (yi_off ((wanted_eq rfl rfl rfl (congrArg Value.bool hc459)).trans rfl)) ?_
       refine ws_q (v := undef) 13 [14, 15, 16, 17, 18, 19, 20, 21, 22] (by kernel_rfl) rfl rfl (yi_off ((wanted_eq rfl rfl rfl (congrArg Value.bool hc459)).trans rfl)) ?_
       refine ws_q (v := undef) 14 [15, 16, 17, 18, 19, 20, 21, 22] (by kernel_rfl) rfl rfl (yi_off (wanted_undef rfl rfl rfl rfl)) ?_
       refine ws_q (v := undef) 15 [16, 17, 18, 19, 20, 21, 22] (by kernel_rfl) rfl rfl (yi_off (wanted_undef rfl rfl rfl rfl)) ?_
       refine ws_q (v := undef) 16 [17, 18, 19, 20, 21, 22] (by kernel_rfl) rfl rfl (yi_off (wanted_undef rfl rfl rfl rfl)) ?_
       refine ws_q (v := undef) 17 [18, 19, 20, 21, 22] (by kernel_rfl) rfl rfl (yi_off (wanted_undef rfl rfl rfl rfl)) ?_
       refine ws_q (v := undef) 18 [19, 20, 21, 22] (by kernel_rfl) rfl rfl (yi_off (wanted_undef rfl rfl rfl rfl)) ?_
       refine ws_q (v := undef) 19 [20, 21, 22] (by kernel_rfl) rfl rfl (yi_off (wanted_undef rfl rfl rfl rfl)) ?_
       refine ws_q (v := undef) 20 [21, 22] (by kernel_rfl) rfl rfl (yi_off (wanted_undef rfl rfl rfl rfl)) ?_
       refine ws_q (v := undef) 21 [22] (by kernel_rfl) rfl rfl (yi_off ((wanted_eq rfl rfl rfl (congrArg Value.bool hc459)).trans rfl)) ?_
       refine wsr (.bool true) 22 rfl rfl rfl (by kernel_rfl) (fun w hst => x_pick_t hc459 rfl rfl) ?_
       refine ws_nil ?_
       intro w hst
       refine then_n ?_
       refine wp_ift rfl ?_
       refine wp_seq (wp_region_lit ?_)
       refine wv (.bool false) rfl rfl rfl ?_
       refine wl_nil (then_n (wp_ret (then_r ?_)))
       replace hm := inr_up hm hx469
       obtain rfl := some_inj hm
       refine post_ret (vs := [.bool false]) Try.results3 (rvs_cons (rv_tmp rfl) rvs_nil) ?_
       exact ⟨_, rfl, hI0, hst.keep0⟩
      ·skip
       replace hm := bif_f hc459 hm
       refine ws_q (v := .int .i64 t359.2) 11 [12, 13, 14, 15, 16, 17, 18, 19, 20, 21, 22] (by kernel_rfl) rfl rfl (yi_run ((wanted_eq rfl rfl rfl (congrArg Value.bool hc459)).trans rfl) (fun w hst => rfl)) ?_
       refine ws_q (v := .bool (t359.2 != (0:Int))) 12 [13, 14, 15, 16, 17, 18, 19, 20, 21, 22] (by kernel_rfl) rfl rfl (yi_run ((wanted_eq rfl rfl rfl (congrArg Value.bool hc459)).trans rfl) (fun w hst => rfl)) ?_
       refine ws_q (v := .bool (t359.2 != (0:Int))) 13 [14, 15, 16, 17, 18, 19, 20, 21, 22] (by kernel_rfl) rfl rfl (yi_run ((wanted_eq rfl rfl rfl (congrArg Value.bool hc459)).trans rfl) (fun w hst => rfl)) ?_
       refine bsplit (t359.2 != (0:Int)) (fun hc460 => ?_) (fun hc460 => ?_)
       ·skip
        replace hm := bif_t hc460 hm
        refine ws_q (v := .int .i64 t359.2) 14 [15, 16, 17, 18, 19, 20, 21, 22] (by kernel_rfl) rfl rfl (yi_run ((wanted_eq rfl rfl rfl (congrArg Value.bool hc460)).trans rfl) (fun w hst => rfl)) ?_
        refine ws_q (v := .bool (t359.2 != (5:Int))) 15 [16, 17, 18, 19, 20, 21, 22] (by kernel_rfl) rfl rfl (yi_run ((wanted_eq rfl rfl rfl (congrArg Value.bool hc460)).trans rfl) (fun w hst => rfl)) ?_
        refine ws_q (v := .bool (t359.2 != (5:Int))) 16 [17, 18, 19, 20, 21, 22] (by kernel_rfl) rfl rfl (yi_run ((wanted_eq rfl rfl rfl (congrArg Value.bool hc460)).trans rfl) (fun w hst => rfl)) ?_
        refine bsplit (t359.2 != (5:Int)) (fun hc461 => ?_) (fun hc461 => ?_)
        ·skip
         replace hm := bif_t hc461 hm
         refine ws_q (v := undef) 17 [18, 19, 20, 21, 22] (by kernel_rfl) rfl rfl (yi_off ((wanted_eq rfl rfl rfl (congrArg Value.bool hc461)).trans rfl)) ?_
         refine ws_q (v := undef) 18 [19, 20, 21, 22] (by kernel_rfl) rfl rfl (yi_off ((wanted_eq rfl rfl rfl (congrArg Value.bool hc461)).trans rfl)) ?_
         refine ws_q (v := undef) 19 [20, 21, 22] (by kernel_rfl) rfl rfl (yi_off ((wanted_eq rfl rfl rfl (congrArg Value.bool hc461)).trans rfl)) ?_
         refine ws_q (v := .bool true) 20 [21, 22] (by kernel_rfl) rfl rfl (yi_run ((wanted_eq rfl rfl rfl (congrArg Value.bool hc460)).trans rfl) (fun w hst => x_pick_t hc461 rfl rfl)) ?_
         refine ws_q (v := .bool true) 21 [22] (by kernel_rfl) rfl rfl (yi_run ((wanted_eq rfl rfl rfl (congrArg Value.bool hc459)).trans rfl) (fun w hst => x_pick_t hc460 rfl rfl)) ?_
         refine wsr (.bool true) 22 rfl rfl rfl (by kernel_rfl) (fun w hst => x_pick_f hc459 rfl rfl) ?_
         refine ws_nil ?_
         intro w hst
         refine then_n ?_
         refine wp_ift rfl ?_
         refine wp_seq (wp_region_lit ?_)
         refine wv (.bool false) rfl rfl rfl ?_
         refine wl_nil (then_n (wp_ret (then_r ?_)))
         replace hm := inr_up hm hx469
         obtain rfl := some_inj hm
         refine post_ret (vs := [.bool false]) Try.results3 (rvs_cons (rv_tmp rfl) rvs_nil) ?_
         exact ⟨_, rfl, hI0, hst.keep0⟩
        ·skip
         replace hm := bif_f hc461 hm
         refine ws_q (v := .pointer (some ⟨b412, 0, none⟩)) 17 [18, 19, 20, 21, 22] (by kernel_rfl) rfl rfl (yi_run ((wanted_eq rfl rfl rfl (congrArg Value.bool hc461)).trans rfl) (fun w hst => x_field rfl Try.underlying50 rfl Try.sizeOf5 rfl)) ?_
         refine ws_q (v := .int .u8 t359.1.Kind) 18 [19, 20, 21, 22] (by kernel_rfl) rfl rfl (yi_run ((wanted_eq rfl rfl rfl (congrArg Value.bool hc461)).trans rfl) (fun w hst => x_load rfl Try.isAgg5 (hst.bc17 rfl))) ?_
         refine ws_q (v := .bool (t359.1.Kind != (0:Int))) 19 [20, 21, 22] (by kernel_rfl) rfl rfl (yi_run ((wanted_eq rfl rfl rfl (congrArg Value.bool hc461)).trans rfl) (fun w hst => rfl)) ?_
         refine ws_q (v := .bool (t359.1.Kind != (0:Int))) 20 [21, 22] (by kernel_rfl) rfl rfl (yi_run ((wanted_eq rfl rfl rfl (congrArg Value.bool hc460)).trans rfl) (fun w hst => x_pick_f hc461 rfl rfl)) ?_
         refine ws_q (v := .bool (t359.1.Kind != (0:Int))) 21 [22] (by kernel_rfl) rfl rfl (yi_run ((wanted_eq rfl rfl rfl (congrArg Value.bool hc459)).trans rfl) (fun w hst => x_pick_t hc460 rfl rfl)) ?_
         refine wsr (.bool (t359.1.Kind != (0:Int))) 22 rfl rfl rfl (by kernel_rfl) (fun w hst => x_pick_f hc459 rfl rfl) ?_
         refine ws_nil ?_
         intro w hst
         refine then_n ?_
         refine bsplit (t359.1.Kind != (0:Int)) (fun hc462 => ?_) (fun hc462 => ?_)
         ·skip
          replace hm := bif_t hc462 hm
          refine wp_ift (congrArg Value.bool hc462) ?_
          refine wp_seq (wp_region_lit ?_)
          refine wv (.bool false) rfl rfl rfl ?_
          refine wl_nil (then_n (wp_ret (then_r ?_)))
          replace hm := inr_up hm hx469
          obtain rfl := some_inj hm
          refine post_ret (vs := [.bool false]) Try.results3 (rvs_cons (rv_tmp rfl) rvs_nil) ?_
          exact ⟨_, rfl, hI0, hst.keep0⟩
         ·skip
          replace hm := bif_f hc462 hm
          refine wp_iff (congrArg Value.bool hc462) ?_
          refine wp_skip (then_n ?_)
          replace hst := hst.keep0
          obtain rfl := some_inj hm
          exact ⟨_, hx469, ((fr_upd (t := 1) (v := r1_0) rfl).trans ((fr_upd (t := 2) (v := .int .u16 a2) rfl).trans ((fr_upd (t := 3) (v := .int .u8 a3) rfl).trans rfl))), hst⟩
       ·skip
        replace hm := bif_f hc460 hm
        refine ws_q (v := undef) 14 [15, 16, 17, 18, 19, 20, 21, 22] (by kernel_rfl) rfl rfl (yi_off ((wanted_eq rfl rfl rfl (congrArg Value.bool hc460)).trans rfl)) ?_
        refine ws_q (v := undef) 15 [16, 17, 18, 19, 20, 21, 22] (by kernel_rfl) rfl rfl (yi_off ((wanted_eq rfl rfl rfl (congrArg Value.bool hc460)).trans rfl)) ?_
        refine ws_q (v := undef) 16 [17, 18, 19, 20, 21, 22] (by kernel_rfl) rfl rfl (yi_off ((wanted_eq rfl rfl rfl (congrArg Value.bool hc460)).trans rfl)) ?_
        refine ws_q (v := undef) 17 [18, 19, 20, 21, 22] (by kernel_rfl) rfl rfl (yi_off (wanted_undef rfl rfl rfl rfl)) ?_
        refine ws_q (v := undef) 18 [19, 20, 21, 22] (by kernel_rfl) rfl rfl (yi_off (wanted_undef rfl rfl rfl rfl)) ?_
        refine ws_q (v := undef) 19 [20, 21, 22] (by kernel_rfl) rfl rfl (yi_off (wanted_undef rfl rfl rfl rfl)) ?_
        refine ws_q (v := undef) 20 [21, 22] (by kernel_rfl) rfl rfl (yi_off ((wanted_eq rfl rfl rfl (congrArg Value.bool hc460)).trans rfl)) ?_
        refine ws_q (v := .bool false) 21 [22] (by kernel_rfl) rfl rfl (yi_run ((wanted_eq rfl rfl rfl (congrArg Value.bool hc459)).trans rfl) (fun w hst => x_pick_f hc460 rfl rfl)) ?_
        refine wsr (.bool false) 22 rfl rfl rfl (by kernel_rfl) (fun w hst => x_pick_f hc459 rfl rfl) ?_
        refine ws_nil ?_
        intro w hst
        refine then_n ?_
        refine wp_iff rfl ?_
        refine wp_skip (then_n ?_)
        replace hst := hst.keep0
        obtain rfl := some_inj hm
        exact ⟨_, hx469, ((fr_upd (t := 1) (v := r1_0) rfl).trans ((fr_upd (t := 2) (v := .int .u16 a2) rfl).trans ((fr_upd (t := 3) (v := .int .u8 a3) rfl).trans rfl))), hst⟩
     ·skip
      replace hm := bif_f hc419 hm
      refine ws_q (v := undef) 3 [4, 5, 6, 7, 8, 9, 10, 11, 12, 13, 14, 15, 16, 17, 18, 19, 20, 21, 22] (by kernel_rfl) rfl rfl (yi_off ((wanted_eq rfl rfl rfl (congrArg Value.bool hc419)).trans rfl)) ?_
      refine ws_q (v := undef) 4 [5, 6, 7, 8, 9, 10, 11, 12, 13, 14, 15, 16, 17, 18, 19, 20, 21, 22] (by kernel_rfl) rfl rfl (yi_off ((wanted_eq rfl rfl rfl (congrArg Value.bool hc419)).trans rfl)) ?_
      refine ws_q (v := undef) 5 [6, 7, 8, 9, 10, 11, 12, 13, 14, 15, 16, 17, 18, 19, 20, 21, 22] (by kernel_rfl) rfl rfl (yi_off ((wanted_eq rfl rfl rfl (congrArg Value.bool hc419)).trans rfl)) ?_
      refine ws_q (v := undef) 6 [7, 8, 9, 10, 11, 12, 13, 14, 15, 16, 17, 18, 19, 20, 21, 22] (by kernel_rfl) rfl rfl (yi_off ((wanted_eq rfl rfl rfl (congrArg Value.bool hc419)).trans rfl)) ?_
      refine ws_q (v := undef) 7 [8, 9, 10, 11, 12, 13, 14, 15, 16, 17, 18, 19, 20, 21, 22] (by kernel_rfl) rfl rfl (yi_off ((wanted_eq rfl rfl rfl (congrArg Value.bool hc419)).trans rfl)) ?_
      refine ws_q (v := undef) 8 [9, 10, 11, 12, 13, 14, 15, 16, 17, 18, 19, 20, 21, 22] (by kernel_rfl) rfl rfl (yi_off ((wanted_eq rfl rfl rfl (congrArg Value.bool hc419)).trans rfl)) ?_
      refine wsr (.bool false) 9 rfl rfl rfl (by kernel_rfl) (fun w hst => x_pick_f hc419 rfl rfl) ?_
      refine wsr (.bool false) 10 rfl rfl rfl (by kernel_rfl) (fun w hst => rfl) ?_
      refine ws_q (v := .int .i64 t359.2) 11 [12, 13, 14, 15, 16, 17, 18, 19, 20, 21, 22] (by kernel_rfl) rfl rfl (yi_run ((wanted_eq rfl rfl rfl rfl).trans rfl) (fun w hst => rfl)) ?_
      refine ws_q (v := .bool (t359.2 != (0:Int))) 12 [13, 14, 15, 16, 17, 18, 19, 20, 21, 22] (by kernel_rfl) rfl rfl (yi_run ((wanted_eq rfl rfl rfl rfl).trans rfl) (fun w hst => rfl)) ?_
      refine ws_q (v := .bool (t359.2 != (0:Int))) 13 [14, 15, 16, 17, 18, 19, 20, 21, 22] (by kernel_rfl) rfl rfl (yi_run ((wanted_eq rfl rfl rfl rfl).trans rfl) (fun w hst => rfl)) ?_
      refine bsplit (t359.2 != (0:Int)) (fun hc463 => ?_) (fun hc463 => ?_)
      ·skip
       replace hm := bif_t hc463 hm
       refine ws_q (v := .int .i64 t359.2) 14 [15, 16, 17, 18, 19, 20, 21, 22] (by kernel_rfl) rfl rfl (yi_run ((wanted_eq rfl rfl rfl (congrArg Value.bool hc463)).trans rfl) (fun w hst => rfl)) ?_
       refine ws_q (v := .bool (t359.2 != (5:Int))) 15 [16, 17, 18, 19, 20, 21, 22] (by kernel_rfl) rfl rfl (yi_run ((wanted_eq rfl rfl rfl (congrArg Value.bool hc463)).trans rfl) (fun w hst => rfl)) ?_
       refine ws_q (v := .bool (t359.2 != (5:Int))) 16 [17, 18, 19, 20, 21, 22] (by kernel_rfl) rfl rfl (yi_run ((wanted_eq rfl rfl rfl (congrArg Value.bool hc463)).trans rfl) (fun w hst => rfl)) ?_
       refine bsplit (t359.2 != (5:Int)) (fun hc464 => ?_) (fun hc464 => ?_)
       ·skip
        replace hm := bif_t hc464 hm
        refine ws_q (v := undef) 17 [18, 19, 20, 21, 22] (by kernel_rfl) rfl rfl (yi_off ((wanted_eq rfl rfl rfl (congrArg Value.bool hc464)).trans rfl)) ?_
        refine ws_q (v := undef) 18 [19, 20, 21, 22] (by kernel_rfl) rfl rfl (yi_off ((wanted_eq rfl rfl rfl (congrArg Value.bool hc464)).trans rfl)) ?_
        refine ws_q (v := undef) 19 [20, 21, 22] (by kernel_rfl) rfl rfl (yi_off ((wanted_eq rfl rfl rfl (congrArg Value.bool hc464)).trans rfl)) ?_
        refine ws_q (v := .bool true) 20 [21, 22] (by kernel_rfl) rfl rfl (yi_run ((wanted_eq rfl rfl rfl (congrArg Value.bool hc463)).trans rfl) (fun w hst => x_pick_t hc464 rfl rfl)) ?_
        refine ws_q (v := .bool true) 21 [22] (by kernel_rfl) rfl rfl (yi_run ((wanted_eq rfl rfl rfl rfl).trans rfl) (fun w hst => x_pick_t hc463 rfl rfl)) ?_
        refine wsr (.bool true) 22 rfl rfl rfl (by kernel_rfl) (fun w hst => x_pick_f rfl rfl rfl) ?_
        refine ws_nil ?_
        intro w hst
        refine then_n ?_
        refine wp_ift rfl ?_
        refine wp_seq (wp_region_lit ?_)
        refine wv (.bool false) rfl rfl rfl ?_
        refine wl_nil (then_n (wp_ret (then_r ?_)))
        replace hm := inr_up hm hx469
        obtain rfl := some_inj hm
        refine post_ret (vs := [.bool false]) Try.results3 (rvs_cons (rv_tmp rfl) rvs_nil) ?_
        exact ⟨_, rfl, hI0, hst.keep0⟩
       ·skip
        replace hm := bif_f hc464 hm
        refine ws_q (v := .pointer (some ⟨b412, 0, none⟩)) 17 [18, 19, 20, 21, 22] (by kernel_rfl) rfl rfl (yi_run ((wanted_eq rfl rfl rfl (congrArg Value.bool hc464)).trans rfl) (fun w hst => x_field rfl Try.underlying50 rfl Try.sizeOf5 rfl)) ?_
        refine ws_q (v := .int .u8 t359.1.Kind) 18 [19, 20, 21, 22] (by kernel_rfl) rfl rfl (yi_run ((wanted_eq rfl rfl rfl (congrArg Value.bool hc464)).trans rfl) (fun w hst => x_load rfl Try.isAgg5 (hst.bc0 rfl))) ?_
        refine ws_q (v := .bool (t359.1.Kind != (0:Int))) 19 [20, 21, 22] (by kernel_rfl) rfl rfl (yi_run ((wanted_eq rfl rfl rfl (congrArg Value.bool hc464)).trans rfl) (fun w hst => rfl)) ?_
        refine ws_q (v := .bool (t359.1.Kind != (0:Int))) 20 [21, 22] (by kernel_rfl) rfl rfl (yi_run ((wanted_eq rfl rfl rfl (congrArg Value.bool hc463)).trans rfl) (fun w hst => x_pick_f hc464 rfl rfl)) ?_
        refine ws_q (v := .bool (t359.1.Kind != (0:Int))) 21 [22] (by kernel_rfl) rfl rfl (yi_run ((wanted_eq rfl rfl rfl rfl).trans rfl) (fun w hst => x_pick_t hc463 rfl rfl)) ?_
        refine wsr (.bool (t359.1.Kind != (0:Int))) 22 rfl rfl rfl (by kernel_rfl) (fun w hst => x_pick_f rfl rfl rfl) ?_
        refine ws_nil ?_
        intro w hst
        refine then_n ?_
        refine bsplit (t359.1.Kind != (0:Int)) (fun hc465 => ?_) (fun hc465 => ?_)
        ·skip
         replace hm := bif_t hc465 hm
         refine wp_ift (congrArg Value.bool hc465) ?_
         refine wp_seq (wp_region_lit ?_)
         refine wv (.bool false) rfl rfl rfl ?_
         refine wl_nil (then_n (wp_ret (then_r ?_)))
         replace hm := inr_up hm hx469
         obtain rfl := some_inj hm
         refine post_ret (vs := [.bool false]) Try.results3 (rvs_cons (rv_tmp rfl) rvs_nil) ?_
         exact ⟨_, rfl, hI0, hst.keep0⟩
        ·skip
         replace hm := bif_f hc465 hm
         refine wp_iff (congrArg Value.bool hc465) ?_
         refine wp_skip (then_n ?_)
         replace hst := hst.keep0
         obtain rfl := some_inj hm
         exact ⟨_, hx469, ((fr_upd (t := 1) (v := r1_0) rfl).trans ((fr_upd (t := 2) (v := .int .u16 a2) rfl).trans ((fr_upd (t := 3) (v := .int .u8 a3) rfl).trans rfl))), hst⟩
      ·skip
       replace hm := bif_f hc463 hm
       refine ws_q (v := undef) 14 [15, 16, 17, 18, 19, 20, 21, 22] (by kernel_rfl) rfl rfl (yi_off ((wanted_eq rfl rfl rfl (congrArg Value.bool hc463)).trans rfl)) ?_
       refine ws_q (v := undef) 15 [16, 17, 18, 19, 20, 21, 22] (by kernel_rfl) rfl rfl (yi_off ((wanted_eq rfl rfl rfl (congrArg Value.bool hc463)).trans rfl)) ?_
       refine ws_q (v := undef) 16 [17, 18, 19, 20, 21, 22] (by kernel_rfl) rfl rfl (yi_off ((wanted_eq rfl rfl rfl (congrArg Value.bool hc463)).trans rfl)) ?_
       refine ws_q (v := undef) 17 [18, 19, 20, 21, 22] (by kernel_rfl) rfl rfl (yi_off (wanted_undef rfl rfl rfl rfl)) ?_
       refine ws_q (v := undef) 18 [19, 20, 21, 22] (by kernel_rfl) rfl rfl (yi_off (wanted_undef rfl rfl rfl rfl)) ?_
       refine ws_q (v := undef) 19 [20, 21, 22] (by kernel_rfl) rfl rfl (yi_off (wanted_undef rfl rfl rfl rfl)) ?_
       refine ws_q (v := undef) 20 [21, 22] (by kernel_rfl) rfl rfl (yi_off ((wanted_eq rfl rfl rfl (congrArg Value.bool hc463)).trans rfl)) ?_
       refine ws_q (v := .bool false) 21 [22] (by kernel_rfl) rfl rfl (yi_run ((wanted_eq rfl rfl rfl rfl).trans rfl) (fun w hst => x_pick_f hc463 rfl rfl)) ?_
       refine wsr (.bool false) 22 rfl rfl rfl (by kernel_rfl) (fun w hst => x_pick_f rfl rfl rfl) ?_
       refine ws_nil ?_
       intro w hst
       refine then_n ?_
       refine wp_iff rfl ?_
       refine wp_skip (then_n ?_)
       replace hst := hst.keep0
       obtain rfl := some_inj hm
       exact ⟨_, hx469, ((fr_upd (t := 1) (v := r1_0) rfl).trans ((fr_upd (t := 2) (v := .int .u16 a2) rfl).trans ((fr_upd (t := 3) (v := .int .u8 a3) rfl).trans rfl))), hst⟩
    ·skip
     clear hst
     rintro _ w470 ⟨σ466, hm, rfl, hst⟩
     dsimp only [law17_MailJunk_j0] at hm
     refine wp_seq (wp_region_lit ?_)
     refine wv (r1_0) rfl rfl rfl ?_
     refine wv (.agg #[r1_0, .int .i64 (0:Int)]) rfl rfl (by obtain ⟨_, _, hv_, _⟩ := (ro_sliceV f1_0); rw [hv_]; kernel_rfl) ?_
     obtain ⟨b472, w473, ew474, eb475, hst⟩ := hst.box [r1_0, .int .i64 (0:Int)] 57
     refine wl_run (v := .pointer (some ⟨b472, 0, none⟩)) (w' := w473) rfl rfl (x_al (by kernel_rfl) ew474 eb475) ?_
     replace hst := at_ref12_Tape_close (pv := .pointer (some ⟨b472, 0, none⟩)) (x := ({ L := a1, I := (0:Int) } : ref12_Tape)) hst ⟨rfl, f1_0⟩
     obtain ⟨t477, ht478, hm⟩ := bind_some hm
     refine wl_call rfl rfl (x_call Try.call9 rfl (vs := [.pointer (some ⟨b472, 0, none⟩)]) rfl) ?_
     refine (law17_make1_ref hst.to1 ht478).mono ?_
     rintro _ w479 ⟨I480, v482, v484, v486, v488, v490, v492, v494, v496, v498, v500, v502, v504, v506, v508, v510, v512, rfl, hI481, hst⟩
     refine ⟨_, rfl, ?_⟩
     replace hst := hst.of17
     replace f0_0 := f0_0.mono (ro_le hI481)
     replace f1_0 := f1_0.mono (ro_le hI481)
     replace hI0 := hI0.trans hI481
     obtain ⟨css514, hq515, hst⟩ := hst.own_open
     replace hst := hst.pull1
     obtain ⟨css516, hq517, hst⟩ := hst.own_open
     replace hst := hst.pull2
     obtain ⟨css518, hq519, hst⟩ := hst.own_open
     replace hst := hst.pull3
     obtain ⟨css520, hq521, hst⟩ := hst.own_open
     replace hst := hst.pull4
     obtain ⟨css522, hq523, hst⟩ := hst.own_open
     replace hst := hst.pull5
     obtain ⟨css524, hq525, hst⟩ := hst.own_open
     replace hst := hst.pull6
     obtain ⟨css526, hq527, hst⟩ := hst.own_open
     replace hst := hst.pull7
     obtain ⟨css528, hq529, hst⟩ := hst.own_open
     replace hst := hst.pull8
     obtain ⟨css530, hq531, hst⟩ := hst.own_open
     replace hst := hst.pull9
     obtain ⟨css532, hq533, hst⟩ := hst.own_open
     replace hst := hst.pull10
     obtain ⟨css534, hq535, hst⟩ := hst.own_open
     replace hst := hst.pull11
     obtain ⟨css536, hq537, hst⟩ := hst.own_open
     replace hst := hst.pull12
     obtain ⟨css538, hq539, hst⟩ := hst.own_open
     replace hst := hst.pull13
     obtain ⟨css540, hq541, hst⟩ := hst.own_open
     replace hst := hst.pull14
     obtain ⟨css542, hq543, hst⟩ := hst.own_open
     replace hst := hst.pull15
     obtain ⟨css544, hq545, hst⟩ := hst.own_open
     obtain ⟨t546, ht547, hm⟩ := bind_some hm
     refine wl_call rfl rfl (x_call Try.call8 rfl (vs := [.agg #[.int .u8 t477.1.Kind, .int .u8 t477.1.M.Kind, .int .i64 t477.1.M.From, .int .i64 t477.1.M.To, .int .u64 t477.1.M.Term, .int .u64 t477.1.M.Index, .int .u64 t477.1.M.LogTerm, .int .u64 t477.1.M.Commit, .bool t477.1.M.OK, v482, .int .u64 t477.1.M.S.Index, .int .u64 t477.1.M.S.Term, .int .u64 t477.1.M.S.Voters, v484, .int .u64 t477.1.H.ID.Session, .int .u64 t477.1.H.ID.Seq, .int .u64 t477.1.H.Epoch, v486, v488, v490, v492, .int .u64 t477.1.ID.Session, .int .u64 t477.1.ID.Seq, .int .i64 t477.1.R.E, .int .u64 t477.1.R.Epoch, .int .u64 t477.1.R.Index, v494, v496, .int .u8 t477.1.C.Kind, .int .u64 t477.1.C.ID.Session, .int .u64 t477.1.C.ID.Seq, .int .u64 t477.1.C.Epoch, .int .u64 t477.1.C.Index, .int .i64 t477.1.C.E, .int .u64 t477.1.C.Hold.ID.Session, .int .u64 t477.1.C.Hold.ID.Seq, .int .u64 t477.1.C.Hold.Epoch, v498, v500, v502, v504, v506, .int .i64 t477.1.C.R.E, .int .u64 t477.1.C.R.Epoch, .int .u64 t477.1.C.R.Index, v508, v510, .int .u64 t477.1.C.Shards, v512, .int .u64 t477.1.C.Rule.ID, .int .i64 t477.1.C.Rule.From, .int .i64 t477.1.C.Rule.To, .float .f64 t477.1.C.Rule.Lo, .float .f64 t477.1.C.Rule.Hi, .int .u64 t477.1.C.Rule.Authority, .int .i64 t477.1.C.Rule.Quota, .bool t477.1.C.On]]) rfl) ?_
     refine (mail_Encode_ref (hst.rdrow15 hq515) (hst.rdrow14 hq517) (hst.rdrow13 hq519) (hst.rdrow12 hq521) (hst.rdrow11 hq523) (hst.rdrow10 hq525) (hst.rdrow9 hq527) (hst.rdrow8 hq529) (hst.rdrow7 hq531) (hst.rdrow6 hq533) (hst.rdrow5 hq535) (hst.rdrow4 hq537) (hst.rdrow3 hq539) (hst.rdrow2 hq541) (hst.rdrow1 hq543) (hst.rdrow0 hq545) hst.to0 ht547).mono ?_
     rintro _ w548 ⟨v551, rfl, hst⟩
     refine ⟨_, rfl, ?_⟩
     replace hst := hst.of1
     replace hst := hst.pull16
     replace hst := hst.own_close hq515
     replace hst := hst.pull16
     replace hst := hst.own_close hq517
     replace hst := hst.pull16
     replace hst := hst.own_close hq519
     replace hst := hst.pull16
     replace hst := hst.own_close hq521
     replace hst := hst.pull16
     replace hst := hst.own_close hq523
     replace hst := hst.pull16
     replace hst := hst.own_close hq525
     replace hst := hst.pull16
     replace hst := hst.own_close hq527
     replace hst := hst.pull16
     replace hst := hst.own_close hq529
     replace hst := hst.pull16
     replace hst := hst.own_close hq531
     replace hst := hst.pull16
     replace hst := hst.own_close hq533
     replace hst := hst.pull16
     replace hst := hst.own_close hq535
     replace hst := hst.pull16
     replace hst := hst.own_close hq537
     replace hst := hst.pull16
     replace hst := hst.own_close hq539
     replace hst := hst.pull16
     replace hst := hst.own_close hq541
     replace hst := hst.pull16
     replace hst := hst.own_close hq543
     replace hst := hst.pull16
     replace hst := hst.own_close hq545
     refine wv (v551) rfl rfl rfl ?_
     refine wl_nil (then_n (wp_seq (wp_region_lit ?_)))
     refine wv (.int .u16 a2) rfl rfl rfl ?_
     refine wv (.int .i64 (IntKind.i64.wrap a2)) rfl rfl (by kernel_rfl) ?_
     refine wv (v551) rfl rfl rfl ?_
     refine wv (.int .i64 ((t546).length : Int)) rfl rfl (x_len rfl Try.underlying22 hst.sv16) ?_
     obtain ⟨hg553, hm⟩ := gd_some hm
     refine wv (.int .i64 (Int.tmod (IntKind.i64.wrap a2) ((t546).length : Int))) rfl rfl (x_rem (not_t hg553) rfl rfl) ?_
     refine wv (.int .i64 (Int.tmod (IntKind.i64.wrap a2) ((t546).length : Int))) rfl rfl rfl ?_
     refine wl_nil (then_n (wp_seq (wp_region_lit ?_)))
     refine wv (v551) rfl rfl rfl ?_
     refine wv (.int .i64 (Int.tmod (IntKind.i64.wrap a2) ((t546).length : Int))) rfl rfl rfl ?_
     refine wv (v551) rfl rfl rfl ?_
     refine wv (.int .i64 (Int.tmod (IntKind.i64.wrap a2) ((t546).length : Int))) rfl rfl rfl ?_
     obtain ⟨x554, hx555, hm⟩ := bind_some hm
     obtain ⟨h556, h557, hi558⟩ := geto_some hx555
     refine wv (.pointer (some (eAddr v551 ((Int.tmod (IntKind.i64.wrap a2) ((t546).length : Int)).toNat * 1 + 0)))) rfl rfl (x_index rfl rfl Try.underlying22 Try.sizeOf5 hst.sv16 h556 h557) ?_
     refine wv (.int .u8 x554) rfl rfl (x_load rfl Try.isAgg5 (hst.ol16 hi558 (by rintro _ rfl; rfl))) ?_
     refine wv (.int .u8 a3) rfl rfl rfl ?_
     refine wv (.int .u8 (bXor .u8 x554 a3)) rfl rfl rfl ?_
     refine wv (.pointer (some (eAddr v551 ((Int.tmod (IntKind.i64.wrap a2) ((t546).length : Int)).toNat * 1 + 0)))) rfl rfl (x_index rfl rfl Try.underlying22 Try.sizeOf5 hst.sv16 h556 h557) ?_
     replace hst := hst.pull16
     obtain ⟨w559, hr560, hst⟩ := hst.own_store (P := Try.prog) (t := 5) (y := (bXor .u8 x554 a3)) hi558 0 (.int .u8 (bXor .u8 x554 a3)) Try.sizeOf5 (Nat.le_of_ble_eq_true rfl) (ones_cons rfl ones_nil) (by rintro _ rfl; rfl)
     have hi561 := set_get hi558 (bXor .u8 x554 a3)
     have h562 := set_lt h557 (Int.tmod (IntKind.i64.wrap a2) ((t546).length : Int)).toNat (bXor .u8 x554 a3)
     refine wl_unit rfl rfl (x_unit hr560) ?_
     refine wl_nil (then_n (wp_seq (wp_region_lit ?_)))
     refine wv (v551) rfl rfl rfl ?_
     obtain ⟨I563, hI564, f565, hst⟩ := hst.own_fix
     replace f0_0 := f0_0.mono (ro_le hI564)
     replace f1_0 := f1_0.mono (ro_le hI564)
     replace hI0 := hI0.trans hI564
     obtain ⟨t566, ht567, hm⟩ := bind_some hm
     refine wl_call rfl rfl (x_call Try.call7 rfl (vs := [v551]) rfl) ?_
     refine (mail_Decode_ref f565 hst.to0 ht567).mono ?_
     rintro _ w568 ⟨I569, v571, v573, v575, v577, v579, v581, v583, v585, v587, v589, v591, v593, v595, v597, v599, v601, rfl, hI570, hst⟩
     refine ⟨_, rfl, ?_⟩
     replace hst := hst.of16
     replace f0_0 := f0_0.mono (ro_le hI570)
     replace f1_0 := f1_0.mono (ro_le hI570)
     replace f565 := f565.mono (ro_le hI570)
     replace hI0 := hI0.trans hI570
     refine wv (.tuple #[.agg #[.int .u8 t566.1.Kind, .int .u8 t566.1.M.Kind, .int .i64 t566.1.M.From, .int .i64 t566.1.M.To, .int .u64 t566.1.M.Term, .int .u64 t566.1.M.Index, .int .u64 t566.1.M.LogTerm, .int .u64 t566.1.M.Commit, .bool t566.1.M.OK, v571, .int .u64 t566.1.M.S.Index, .int .u64 t566.1.M.S.Term, .int .u64 t566.1.M.S.Voters, v573, .int .u64 t566.1.H.ID.Session, .int .u64 t566.1.H.ID.Seq, .int .u64 t566.1.H.Epoch, v575, v577, v579, v581, .int .u64 t566.1.ID.Session, .int .u64 t566.1.ID.Seq, .int .i64 t566.1.R.E, .int .u64 t566.1.R.Epoch, .int .u64 t566.1.R.Index, v583, v585, .int .u8 t566.1.C.Kind, .int .u64 t566.1.C.ID.Session, .int .u64 t566.1.C.ID.Seq, .int .u64 t566.1.C.Epoch, .int .u64 t566.1.C.Index, .int .i64 t566.1.C.E, .int .u64 t566.1.C.Hold.ID.Session, .int .u64 t566.1.C.Hold.ID.Seq, .int .u64 t566.1.C.Hold.Epoch, v587, v589, v591, v593, v595, .int .i64 t566.1.C.R.E, .int .u64 t566.1.C.R.Epoch, .int .u64 t566.1.C.R.Index, v597, v599, .int .u64 t566.1.C.Shards, v601, .int .u64 t566.1.C.Rule.ID, .int .i64 t566.1.C.Rule.From, .int .i64 t566.1.C.Rule.To, .float .f64 t566.1.C.Rule.Lo, .float .f64 t566.1.C.Rule.Hi, .int .u64 t566.1.C.Rule.Authority, .int .i64 t566.1.C.Rule.Quota, .bool t566.1.C.On], .int .i64 t566.2]) rfl rfl rfl ?_
     refine wv (.agg #[.int .u8 t566.1.Kind, .int .u8 t566.1.M.Kind, .int .i64 t566.1.M.From, .int .i64 t566.1.M.To, .int .u64 t566.1.M.Term, .int .u64 t566.1.M.Index, .int .u64 t566.1.M.LogTerm, .int .u64 t566.1.M.Commit, .bool t566.1.M.OK, v571, .int .u64 t566.1.M.S.Index, .int .u64 t566.1.M.S.Term, .int .u64 t566.1.M.S.Voters, v573, .int .u64 t566.1.H.ID.Session, .int .u64 t566.1.H.ID.Seq, .int .u64 t566.1.H.Epoch, v575, v577, v579, v581, .int .u64 t566.1.ID.Session, .int .u64 t566.1.ID.Seq, .int .i64 t566.1.R.E, .int .u64 t566.1.R.Epoch, .int .u64 t566.1.R.Index, v583, v585, .int .u8 t566.1.C.Kind, .int .u64 t566.1.C.ID.Session, .int .u64 t566.1.C.ID.Seq, .int .u64 t566.1.C.Epoch, .int .u64 t566.1.C.Index, .int .i64 t566.1.C.E, .int .u64 t566.1.C.Hold.ID.Session, .int .u64 t566.1.C.Hold.ID.Seq, .int .u64 t566.1.C.Hold.Epoch, v587, v589, v591, v593, v595, .int .i64 t566.1.C.R.E, .int .u64 t566.1.C.R.Epoch, .int .u64 t566.1.C.R.Index, v597, v599, .int .u64 t566.1.C.Shards, v601, .int .u64 t566.1.C.Rule.ID, .int .i64 t566.1.C.Rule.From, .int .i64 t566.1.C.Rule.To, .float .f64 t566.1.C.Rule.Lo, .float .f64 t566.1.C.Rule.Hi, .int .u64 t566.1.C.Rule.Authority, .int .i64 t566.1.C.Rule.Quota, .bool t566.1.C.On]) rfl rfl rfl ?_
     refine wv (.int .i64 t566.2) rfl rfl rfl ?_
     obtain ⟨b619, w620, ew621, eb622, hst⟩ := hst.box [.int .u8 (0:Int), .int .u8 (0:Int), .int .i64 (0:Int), .int .i64 (0:Int), .int .u64 (0:Int), .int .u64 (0:Int), .int .u64 (0:Int), .int .u64 (0:Int), .bool false, (.slice none 0 0), .int .u64 (0:Int), .int .u64 (0:Int), .int .u64 (0:Int), (.slice none 0 0), .int .u64 (0:Int), .int .u64 (0:Int), .int .u64 (0:Int), (.slice none 0 0), (.slice none 0 0), (.slice none 0 0), (.slice none 0 0), .int .u64 (0:Int), .int .u64 (0:Int), .int .i64 (0:Int), .int .u64 (0:Int), .int .u64 (0:Int), (.slice none 0 0), (.slice none 0 0), .int .u8 (0:Int), .int .u64 (0:Int), .int .u64 (0:Int), .int .u64 (0:Int), .int .u64 (0:Int), .int .i64 (0:Int), .int .u64 (0:Int), .int .u64 (0:Int), .int .u64 (0:Int), (.slice none 0 0), (.slice none 0 0), (.slice none 0 0), (.slice none 0 0), (.slice none 0 0), .int .i64 (0:Int), .int .u64 (0:Int), .int .u64 (0:Int), (.slice none 0 0), (.slice none 0 0), .int .u64 (0:Int), (.slice none 0 0), .int .u64 (0:Int), .int .i64 (0:Int), .int .i64 (0:Int), .float .f64 (0:Nat), .float .f64 (0:Nat), .int .u64 (0:Int), .int .i64 (0:Int), .bool false] 50
     refine wl_run (v := .pointer (some ⟨b619, 0, none⟩)) (w' := w620) rfl rfl (x_al (by kernel_rfl) ew621 eb622) ?_
     obtain ⟨w624, hr625, hst⟩ := hst.boxStore (P := Try.prog) (t := 50) (cs' := [.int .u8 t566.1.Kind, .int .u8 t566.1.M.Kind, .int .i64 t566.1.M.From, .int .i64 t566.1.M.To, .int .u64 t566.1.M.Term, .int .u64 t566.1.M.Index, .int .u64 t566.1.M.LogTerm, .int .u64 t566.1.M.Commit, .bool t566.1.M.OK, v571, .int .u64 t566.1.M.S.Index, .int .u64 t566.1.M.S.Term, .int .u64 t566.1.M.S.Voters, v573, .int .u64 t566.1.H.ID.Session, .int .u64 t566.1.H.ID.Seq, .int .u64 t566.1.H.Epoch, v575, v577, v579, v581, .int .u64 t566.1.ID.Session, .int .u64 t566.1.ID.Seq, .int .i64 t566.1.R.E, .int .u64 t566.1.R.Epoch, .int .u64 t566.1.R.Index, v583, v585, .int .u8 t566.1.C.Kind, .int .u64 t566.1.C.ID.Session, .int .u64 t566.1.C.ID.Seq, .int .u64 t566.1.C.Epoch, .int .u64 t566.1.C.Index, .int .i64 t566.1.C.E, .int .u64 t566.1.C.Hold.ID.Session, .int .u64 t566.1.C.Hold.ID.Seq, .int .u64 t566.1.C.Hold.Epoch, v587, v589, v591, v593, v595, .int .i64 t566.1.C.R.E, .int .u64 t566.1.C.R.Epoch, .int .u64 t566.1.C.R.Index, v597, v599, .int .u64 t566.1.C.Shards, v601, .int .u64 t566.1.C.Rule.ID, .int .i64 t566.1.C.Rule.From, .int .i64 t566.1.C.Rule.To, .float .f64 t566.1.C.Rule.Lo, .float .f64 t566.1.C.Rule.Hi, .int .u64 t566.1.C.Rule.Authority, .int .i64 t566.1.C.Rule.Quota, .bool t566.1.C.On]) 0 (.agg #[.int .u8 t566.1.Kind, .int .u8 t566.1.M.Kind, .int .i64 t566.1.M.From, .int .i64 t566.1.M.To, .int .u64 t566.1.M.Term, .int .u64 t566.1.M.Index, .int .u64 t566.1.M.LogTerm, .int .u64 t566.1.M.Commit, .bool t566.1.M.OK, v571, .int .u64 t566.1.M.S.Index, .int .u64 t566.1.M.S.Term, .int .u64 t566.1.M.S.Voters, v573, .int .u64 t566.1.H.ID.Session, .int .u64 t566.1.H.ID.Seq, .int .u64 t566.1.H.Epoch, v575, v577, v579, v581, .int .u64 t566.1.ID.Session, .int .u64 t566.1.ID.Seq, .int .i64 t566.1.R.E, .int .u64 t566.1.R.Epoch, .int .u64 t566.1.R.Index, v583, v585, .int .u8 t566.1.C.Kind, .int .u64 t566.1.C.ID.Session, .int .u64 t566.1.C.ID.Seq, .int .u64 t566.1.C.Epoch, .int .u64 t566.1.C.Index, .int .i64 t566.1.C.E, .int .u64 t566.1.C.Hold.ID.Session, .int .u64 t566.1.C.Hold.ID.Seq, .int .u64 t566.1.C.Hold.Epoch, v587, v589, v591, v593, v595, .int .i64 t566.1.C.R.E, .int .u64 t566.1.C.R.Epoch, .int .u64 t566.1.C.R.Index, v597, v599, .int .u64 t566.1.C.Shards, v601, .int .u64 t566.1.C.Rule.ID, .int .i64 t566.1.C.Rule.From, .int .i64 t566.1.C.Rule.To, .float .f64 t566.1.C.Rule.Lo, .float .f64 t566.1.C.Rule.Hi, .int .u64 t566.1.C.Rule.Authority, .int .i64 t566.1.C.Rule.Quota, .bool t566.1.C.On]) Try.sizeOf50 (Nat.le_of_ble_eq_true rfl) (ones_cons rfl (ones_cons rfl (ones_cons rfl (ones_cons rfl (ones_cons rfl (ones_cons rfl (ones_cons rfl (ones_cons rfl (ones_cons rfl (ones_cons (one_of_sliceV hst.sv1) (ones_cons rfl (ones_cons rfl (ones_cons rfl (ones_cons (one_of_sliceV hst.sv2) (ones_cons rfl (ones_cons rfl (ones_cons rfl (ones_cons (one_of_sliceV hst.sv3) (ones_cons (one_of_sliceV hst.sv4) (ones_cons (one_of_sliceV hst.sv5) (ones_cons (one_of_sliceV hst.sv6) (ones_cons rfl (ones_cons rfl (ones_cons rfl (ones_cons rfl (ones_cons rfl (ones_cons (one_of_sliceV hst.sv7) (ones_cons (one_of_sliceV hst.sv8) (ones_cons rfl (ones_cons rfl (ones_cons rfl (ones_cons rfl (ones_cons rfl (ones_cons rfl (ones_cons rfl (ones_cons rfl (ones_cons rfl (ones_cons (one_of_sliceV hst.sv9) (ones_cons (one_of_sliceV hst.sv10) (ones_cons (one_of_sliceV hst.sv11) (ones_cons (one_of_sliceV hst.sv12) (ones_cons (one_of_sliceV hst.sv13) (ones_cons rfl (ones_cons rfl (ones_cons rfl (ones_cons (one_of_sliceV hst.sv14) (ones_cons (one_of_sliceV hst.sv15) (ones_cons rfl (ones_cons (one_of_sliceV hst.sv16) (ones_cons rfl (ones_cons rfl (ones_cons rfl (ones_cons rfl (ones_cons rfl (ones_cons rfl (ones_cons rfl (ones_cons rfl ones_nil))))))))))))))))))))))))))))))))))))))))))))))))))))))))) (by kernel_rfl)
     refine wl_unit rfl rfl (x_unit hr625) ?_
     refine wv (.int .i64 t566.2) rfl rfl rfl ?_
     refine wl_nil (then_n (wp_seq ?_))
     refine wp_region_St hst 15 [0, 1, 2, 3, 4, 5, 6, 7, 8, 9, 10, 11, 12, 13, 14] [0, 1, 3, 7, 15, 31, 7, 71, 255, 511, 1023, 2047, 4095, 8191, 16383] [] rfl (by kernel_rfl) (by kernel_rfl) Try.mixed (by kernel_rfl) ?_
     refine wsr (.int .i64 t566.2) 0 rfl rfl rfl (by kernel_rfl) (fun w hst => rfl) ?_
     refine wsr (.bool (t566.2 == (0:Int))) 1 rfl rfl rfl (by kernel_rfl) (fun w hst => rfl) ?_
     refine wsr (.bool (t566.2 == (0:Int))) 2 rfl rfl rfl (by kernel_rfl) (fun w hst => rfl) ?_
     refine bsplit (t566.2 == (0:Int)) (fun hc626 => ?_) (fun hc626 => ?_)
     ·skip
      replace hm := bif_t hc626 hm
      refine ws_q (v := .agg #[.int .u8 t566.1.Kind, .int .u8 t566.1.M.Kind, .int .i64 t566.1.M.From, .int .i64 t566.1.M.To, .int .u64 t566.1.M.Term, .int .u64 t566.1.M.Index, .int .u64 t566.1.M.LogTerm, .int .u64 t566.1.M.Commit, .bool t566.1.M.OK, v571, .int .u64 t566.1.M.S.Index, .int .u64 t566.1.M.S.Term, .int .u64 t566.1.M.S.Voters, v573, .int .u64 t566.1.H.ID.Session, .int .u64 t566.1.H.ID.Seq, .int .u64 t566.1.H.Epoch, v575, v577, v579, v581, .int .u64 t566.1.ID.Session, .int .u64 t566.1.ID.Seq, .int .i64 t566.1.R.E, .int .u64 t566.1.R.Epoch, .int .u64 t566.1.R.Index, v583, v585, .int .u8 t566.1.C.Kind, .int .u64 t566.1.C.ID.Session, .int .u64 t566.1.C.ID.Seq, .int .u64 t566.1.C.Epoch, .int .u64 t566.1.C.Index, .int .i64 t566.1.C.E, .int .u64 t566.1.C.Hold.ID.Session, .int .u64 t566.1.C.Hold.ID.Seq, .int .u64 t566.1.C.Hold.Epoch, v587, v589, v591, v593, v595, .int .i64 t566.1.C.R.E, .int .u64 t566.1.C.R.Epoch, .int .u64 t566.1.C.R.Index, v597, v599, .int .u64 t566.1.C.Shards, v601, .int .u64 t566.1.C.Rule.ID, .int .i64 t566.1.C.Rule.From, .int .i64 t566.1.C.Rule.To, .float .f64 t566.1.C.Rule.Lo, .float .f64 t566.1.C.Rule.Hi, .int .u64 t566.1.C.Rule.Authority, .int .i64 t566.1.C.Rule.Quota, .bool t566.1.C.On]) 3 [4, 5, 6, 7, 8, 9, 10, 11, 12, 13, 14] (by kernel_rfl) rfl rfl (yi_run ((wanted_eq rfl rfl rfl (congrArg Value.bool hc626)).trans rfl) (fun w hst => x_loadN (cs := [.int .u8 t566.1.Kind, .int .u8 t566.1.M.Kind, .int .i64 t566.1.M.From, .int .i64 t566.1.M.To, .int .u64 t566.1.M.Term, .int .u64 t566.1.M.Index, .int .u64 t566.1.M.LogTerm, .int .u64 t566.1.M.Commit, .bool t566.1.M.OK, v571, .int .u64 t566.1.M.S.Index, .int .u64 t566.1.M.S.Term, .int .u64 t566.1.M.S.Voters, v573, .int .u64 t566.1.H.ID.Session, .int .u64 t566.1.H.ID.Seq, .int .u64 t566.1.H.Epoch, v575, v577, v579, v581, .int .u64 t566.1.ID.Session, .int .u64 t566.1.ID.Seq, .int .i64 t566.1.R.E, .int .u64 t566.1.R.Epoch, .int .u64 t566.1.R.Index, v583, v585, .int .u8 t566.1.C.Kind, .int .u64 t566.1.C.ID.Session, .int .u64 t566.1.C.ID.Seq, .int .u64 t566.1.C.Epoch, .int .u64 t566.1.C.Index, .int .i64 t566.1.C.E, .int .u64 t566.1.C.Hold.ID.Session, .int .u64 t566.1.C.Hold.ID.Seq, .int .u64 t566.1.C.Hold.Epoch, v587, v589, v591, v593, v595, .int .i64 t566.1.C.R.E, .int .u64 t566.1.C.R.Epoch, .int .u64 t566.1.C.R.Index, v597, v599, .int .u64 t566.1.C.Shards, v601, .int .u64 t566.1.C.Rule.ID, .int .i64 t566.1.C.Rule.From, .int .i64 t566.1.C.Rule.To, .float .f64 t566.1.C.Rule.Lo, .float .f64 t566.1.C.Rule.Hi, .int .u64 t566.1.C.Rule.Authority, .int .i64 t566.1.C.Rule.Quota, .bool t566.1.C.On]) rfl Try.isAgg50 Try.sizeOf50 (hst.bcs0 0 rfl))) ?_
      refine ws_q (v := v551) 6 [4, 5, 7, 8, 9, 10, 11, 12, 13, 14] (by kernel_rfl) rfl rfl (yi_run ((wanted_eq rfl rfl rfl (congrArg Value.bool hc626)).trans rfl) (fun w hst => rfl)) ?_
      refine ws_q (v := .string (toStr (t546.set (Int.tmod (IntKind.i64.wrap a2) ((t546).length : Int)).toNat (bXor .u8 x554 a3)))) 7 [4, 5, 8, 9, 10, 11, 12, 13, 14] (by kernel_rfl) rfl rfl (yi_run ((wanted_eq rfl rfl rfl (congrArg Value.bool hc626)).trans rfl) (fun w hst => x_tostr Try.underlying22 Try.underlying9 Try.underlying5 rfl (Src.of_ro hst f565))) ?_
      refine ws_e1 4 (by kernel_rfl) ?_
      refine nxe [5, 8, 9, 10, 11, 12, 13, 14] (by kernel_rfl) rfl ((wanted_eq rfl rfl rfl (congrArg Value.bool hc626)).trans rfl) ?_
      clear hst
      intro w hst
      replace hst := hst.pull1
      obtain ⟨css627, hq628, hst⟩ := hst.own_open
      replace hst := hst.pull2
      obtain ⟨css629, hq630, hst⟩ := hst.own_open
      replace hst := hst.pull3
      obtain ⟨css631, hq632, hst⟩ := hst.own_open
      replace hst := hst.pull4
      obtain ⟨css633, hq634, hst⟩ := hst.own_open
      replace hst := hst.pull5
      obtain ⟨css635, hq636, hst⟩ := hst.own_open
      replace hst := hst.pull6
      obtain ⟨css637, hq638, hst⟩ := hst.own_open
      replace hst := hst.pull7
      obtain ⟨css639, hq640, hst⟩ := hst.own_open
      replace hst := hst.pull8
      obtain ⟨css641, hq642, hst⟩ := hst.own_open
      replace hst := hst.pull9
      obtain ⟨css643, hq644, hst⟩ := hst.own_open
      replace hst := hst.pull10
      obtain ⟨css645, hq646, hst⟩ := hst.own_open
      replace hst := hst.pull11
      obtain ⟨css647, hq648, hst⟩ := hst.own_open
      replace hst := hst.pull12
      obtain ⟨css649, hq650, hst⟩ := hst.own_open
      replace hst := hst.pull13
      obtain ⟨css651, hq652, hst⟩ := hst.own_open
      replace hst := hst.pull14
      obtain ⟨css653, hq654, hst⟩ := hst.own_open
      replace hst := hst.pull15
      obtain ⟨css655, hq656, hst⟩ := hst.own_open
      replace hst := hst.pull16
      obtain ⟨css657, hq658, hst⟩ := hst.own_open
      obtain ⟨t659, ht660, hm⟩ := bind_some hm
      refine we_call rfl (x_call Try.call8 rfl (vs := [.agg #[.int .u8 t566.1.Kind, .int .u8 t566.1.M.Kind, .int .i64 t566.1.M.From, .int .i64 t566.1.M.To, .int .u64 t566.1.M.Term, .int .u64 t566.1.M.Index, .int .u64 t566.1.M.LogTerm, .int .u64 t566.1.M.Commit, .bool t566.1.M.OK, v571, .int .u64 t566.1.M.S.Index, .int .u64 t566.1.M.S.Term, .int .u64 t566.1.M.S.Voters, v573, .int .u64 t566.1.H.ID.Session, .int .u64 t566.1.H.ID.Seq, .int .u64 t566.1.H.Epoch, v575, v577, v579, v581, .int .u64 t566.1.ID.Session, .int .u64 t566.1.ID.Seq, .int .i64 t566.1.R.E, .int .u64 t566.1.R.Epoch, .int .u64 t566.1.R.Index, v583, v585, .int .u8 t566.1.C.Kind, .int .u64 t566.1.C.ID.Session, .int .u64 t566.1.C.ID.Seq, .int .u64 t566.1.C.Epoch, .int .u64 t566.1.C.Index, .int .i64 t566.1.C.E, .int .u64 t566.1.C.Hold.ID.Session, .int .u64 t566.1.C.Hold.ID.Seq, .int .u64 t566.1.C.Hold.Epoch, v587, v589, v591, v593, v595, .int .i64 t566.1.C.R.E, .int .u64 t566.1.C.R.Epoch, .int .u64 t566.1.C.R.Index, v597, v599, .int .u64 t566.1.C.Shards, v601, .int .u64 t566.1.C.Rule.ID, .int .i64 t566.1.C.Rule.From, .int .i64 t566.1.C.Rule.To, .float .f64 t566.1.C.Rule.Lo, .float .f64 t566.1.C.Rule.Hi, .int .u64 t566.1.C.Rule.Authority, .int .i64 t566.1.C.Rule.Quota, .bool t566.1.C.On]]) rfl) ?_
      refine (mail_Encode_ref (hst.rdrow15 hq628) (hst.rdrow14 hq630) (hst.rdrow13 hq632) (hst.rdrow12 hq634) (hst.rdrow11 hq636) (hst.rdrow10 hq638) (hst.rdrow9 hq640) (hst.rdrow8 hq642) (hst.rdrow7 hq644) (hst.rdrow6 hq646) (hst.rdrow5 hq648) (hst.rdrow4 hq650) (hst.rdrow3 hq652) (hst.rdrow2 hq654) (hst.rdrow1 hq656) (hst.rdrow0 hq658) hst.to0 ht660).mono ?_
      rintro _ w661 ⟨v664, rfl, hst⟩
      refine ⟨_, rfl, ?_⟩
      replace hst := hst.of1
      replace hst := hst.pull16
      replace hst := hst.own_close hq628
      replace hst := hst.pull16
      replace hst := hst.own_close hq630
      replace hst := hst.pull16
      replace hst := hst.own_close hq632
      replace hst := hst.pull16
      replace hst := hst.own_close hq634
      replace hst := hst.pull16
      replace hst := hst.own_close hq636
      replace hst := hst.pull16
      replace hst := hst.own_close hq638
      replace hst := hst.pull16
      replace hst := hst.own_close hq640
      replace hst := hst.pull16
      replace hst := hst.own_close hq642
      replace hst := hst.pull16
      replace hst := hst.own_close hq644
      replace hst := hst.pull16
      replace hst := hst.own_close hq646
      replace hst := hst.pull16
      replace hst := hst.own_close hq648
      replace hst := hst.pull16
      replace hst := hst.own_close hq650
      replace hst := hst.pull16
      replace hst := hst.own_close hq652
      replace hst := hst.pull16
      replace hst := hst.own_close hq654
      replace hst := hst.pull16
      replace hst := hst.own_close hq656
      replace hst := hst.pull16
      replace hst := hst.own_close hq658
      refine ws_next (pend' := [(7, .string (toStr (t546.set (Int.tmod (IntKind.i64.wrap a2) ((t546).length : Int)).toNat (bXor .u8 x554 a3)))), (6, v551)]) hst (by kernel_rfl) (pk_cons rfl (yi_run ((wanted_eq rfl rfl rfl (congrArg Value.bool hc626)).trans rfl) (fun w hst => x_tostr Try.underlying22 Try.underlying9 Try.underlying5 rfl (Src.of_ro hst f565))) (pk_cons rfl (yi_run ((wanted_eq rfl rfl rfl (congrArg Value.bool hc626)).trans rfl) (fun w hst => rfl)) pk_nil)) ?_
      refine ws_q (v := .string (toStr t659)) 5 [8, 9, 10, 11, 12, 13, 14] (by kernel_rfl) rfl rfl (yi_run ((wanted_eq rfl rfl rfl (congrArg Value.bool hc626)).trans rfl) (fun w hst => x_tostr Try.underlying22 Try.underlying9 Try.underlying5 rfl hst.src16)) ?_
      refine ws_q (v := .bool (sEq (toStr t659) (toStr (t546.set (Int.tmod (IntKind.i64.wrap a2) ((t546).length : Int)).toNat (bXor .u8 x554 a3))))) 8 [9, 10, 11, 12, 13, 14] (by kernel_rfl) rfl rfl (yi_run ((wanted_eq rfl rfl rfl (congrArg Value.bool hc626)).trans rfl) (fun w hst => by kernel_rfl)) ?_
      refine wsr (.bool (sEq (toStr t659) (toStr (t546.set (Int.tmod (IntKind.i64.wrap a2) ((t546).length : Int)).toNat (bXor .u8 x554 a3))))) 9 rfl rfl rfl (by kernel_rfl) (fun w hst => x_pick_t hc626 rfl rfl) ?_
      refine wsr (.bool (sEq (toStr t659) (toStr (t546.set (Int.tmod (IntKind.i64.wrap a2) ((t546).length : Int)).toNat (bXor .u8 x554 a3))))) 10 rfl rfl rfl (by kernel_rfl) (fun w hst => rfl) ?_
      refine bsplit (sEq (toStr t659) (toStr (t546.set (Int.tmod (IntKind.i64.wrap a2) ((t546).length : Int)).toNat (bXor .u8 x554 a3)))) (fun hc666 => ?_) (fun hc666 => ?_)
      ·skip
       replace hm := bif_t hc666 hm
       refine ws_q (v := undef) 11 [12, 13, 14] (by kernel_rfl) rfl rfl (yi_off ((wanted_eq rfl rfl rfl (congrArg Value.bool hc666)).trans rfl)) ?_
       refine ws_q (v := undef) 12 [13, 14] (by kernel_rfl) rfl rfl (yi_off ((wanted_eq rfl rfl rfl (congrArg Value.bool hc666)).trans rfl)) ?_
       refine wsr (.bool true) 13 rfl rfl rfl (by kernel_rfl) (fun w hst => x_pick_t hc666 rfl rfl) ?_
       refine wsr (.bool true) 14 rfl rfl rfl (by kernel_rfl) (fun w hst => rfl) ?_
       refine ws_nil ?_
       intro w hst
       refine then_n (wp_ret ?_)
       obtain rfl := some_inj hm
       refine post_ret (vs := [.bool true]) Try.results3 (rvs_cons (rv_tmp rfl) rvs_nil) ?_
       exact ⟨_, rfl, hI0, hst.keep0⟩
      ·skip
       replace hm := bif_f hc666 hm
       refine ws_q (v := .int .i64 t566.2) 11 [12, 13, 14] (by kernel_rfl) rfl rfl (yi_run ((wanted_eq rfl rfl rfl (congrArg Value.bool hc666)).trans rfl) (fun w hst => rfl)) ?_
       refine ws_q (v := .bool (t566.2 == (5:Int))) 12 [13, 14] (by kernel_rfl) rfl rfl (yi_run ((wanted_eq rfl rfl rfl (congrArg Value.bool hc666)).trans rfl) (fun w hst => rfl)) ?_
       refine wsr (.bool (t566.2 == (5:Int))) 13 rfl rfl rfl (by kernel_rfl) (fun w hst => x_pick_f hc666 rfl rfl) ?_
       refine wsr (.bool (t566.2 == (5:Int))) 14 rfl rfl rfl (by kernel_rfl) (fun w hst => rfl) ?_
       refine ws_nil ?_
       intro w hst
       refine then_n (wp_ret ?_)
       obtain rfl := some_inj hm
       refine post_ret (vs := [.bool (t566.2 == (5:Int))]) Try.results3 (rvs_cons (rv_tmp rfl) rvs_nil) ?_
       exact ⟨_, rfl, hI0, hst.keep0⟩
     ·skip
      replace hm := bif_f hc626 hm
      refine ws_q (v := undef) 3 [4, 5, 6, 7, 8, 9, 10, 11, 12, 13, 14] (by kernel_rfl) rfl rfl (yi_off ((wanted_eq rfl rfl rfl (congrArg Value.bool hc626)).trans rfl)) ?_
      refine ws_q (v := undef) 4 [5, 6, 7, 8, 9, 10, 11, 12, 13, 14] (by kernel_rfl) rfl rfl (yi_off ((wanted_eq rfl rfl rfl (congrArg Value.bool hc626)).trans rfl)) ?_
      refine ws_q (v := undef) 5 [6, 7, 8, 9, 10, 11, 12, 13, 14] (by kernel_rfl) rfl rfl (yi_off ((wanted_eq rfl rfl rfl (congrArg Value.bool hc626)).trans rfl)) ?_
      refine ws_q (v := undef) 6 [7, 8, 9, 10, 11, 12, 13, 14] (by kernel_rfl) rfl rfl (yi_off ((wanted_eq rfl rfl rfl (congrArg Value.bool hc626)).trans rfl)) ?_
      refine ws_q (v := undef) 7 [8, 9, 10, 11, 12, 13, 14] (by kernel_rfl) rfl rfl (yi_off ((wanted_eq rfl rfl rfl (congrArg Value.bool hc626)).trans rfl)) ?_
      refine ws_q (v := undef) 8 [9, 10, 11, 12, 13, 14] (by kernel_rfl) rfl rfl (yi_off ((wanted_eq rfl rfl rfl (congrArg Value.bool hc626)).trans rfl)) ?_
      refine wsr (.bool false) 9 rfl rfl rfl (by kernel_rfl) (fun w hst => x_pick_f hc626 rfl rfl) ?_
      refine wsr (.bool false) 10 rfl rfl rfl (by kernel_rfl) (fun w hst => rfl) ?_
      refine ws_q (v := .int .i64 t566.2) 11 [12, 13, 14] (by kernel_rfl) rfl rfl (yi_run ((wanted_eq rfl rfl rfl rfl).trans rfl) (fun w hst => rfl)) ?_
      refine ws_q (v := .bool (t566.2 == (5:Int))) 12 [13, 14] (by kernel_rfl) rfl rfl (yi_run ((wanted_eq rfl rfl rfl rfl).trans rfl) (fun w hst => rfl)) ?_
      refine wsr (.bool (t566.2 == (5:Int))) 13 rfl rfl rfl (by kernel_rfl) (fun w hst => x_pick_f rfl rfl rfl) ?_
      refine wsr (.bool (t566.2 == (5:Int))) 14 rfl rfl rfl (by kernel_rfl) (fun w hst => rfl) ?_
      refine ws_nil ?_
      intro w hst
      refine then_n (wp_ret ?_)
      obtain rfl := some_inj hm
      refine post_ret (vs := [.bool (t566.2 == (5:Int))]) Try.results3 (rvs_cons (rv_tmp rfl) rvs_nil) ?_
      exact ⟨_, rfl, hI0, hst.keep0⟩

end Go.Proofs.Ytldfdainhdiffaa
