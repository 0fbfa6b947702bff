/- What the evaluator asks of this program (no condition is left), and a law carried out once. -/
import Derived.Test.YtdnggedompfoeaaGreatDoorEvA
import Derived.Test.YtdnggedompfoeaaGreatDoorProg
import Derived.Test.YtdnggedompfoeaaGreatDoorEvD
import Derived.RecoverIn
import Derived.KernelRfl
import Derived.Tactics
import Derived.OpenShut
set_option linter.unusedVariables false
set_option linter.unusedSimpArgs false
namespace Go.AE
def masks : List Nat := [0, 0, 1, 85070591730234615865843651857941987340, 70368744177164, 1010, 262080, 2096908, 562949953420344, 2042, 2147483628, 2417851513128468648820354, 77370735946502203170078776, 2097036, 536870796, 2097100, 302231310788432710591456, 9223372036854775680, 134215180, 8796093014978, 262060, 274877898816, 4090, 4193372, 262132, 26, 4722366236579040591688, 73786853142019670064, 65522, 536813324, 2097144, 262124, 250, 498, 8, 70368744177632, 250, 549755811848, 528481080, 2044, 4080, 32740, 1004, 1099511627666, 67106978, 17592186044168, 281474958852320, 32, 65520, 66846092, 34359738362, 0, 16378, 26, 2042, 16340, 248, 250, 67107268, 250, 250, 250, 8796093022144, 4185996, 1099511623728, 18446744073709550594, 162259276829213363391578010157056, 67107776, 498, 8386636, 16777192, 496, 4951751893000145291391792204, 120, 7944, 21778071482940061661655974875633165009136, 250, 73786976294838206400, 2097120, 4396167461384, 4294967264, 18446744073608101376, 144115188075625504, 4503596406142988, 33554184, 9671148302500001463897356, 68660755234, 506, 1208925819614629174704130, 18446744073709551362, 1125899906842368, 302231454903657293676528, 2097120, 8184, 4080, 4398046510592, 562949953355784, 68719472648, 506, 58, 248, 0, 492, 2036, 562949953421112, 72057594037925944, 36893488147419101240, 123286039799259192, 4294967096, 10889035741470030830827987437816582764600, 131052, 19342813113834066795297008, 374144419156711147060143317175368453031918730998000, 524282, 33554426, 8184, 262112, 492, 4084, 67108620, 8796093021704, 4194296, 1004, 32, 1992, 2199023255040, 144099794912835656, 2147483136, 2097032, 4090, 250, 5070602400912917605975270096876, 16378, 43556142965880123323311949751266331062274, 18737275784580745396098, 1152921504606846956, 45671926166590716193865151022383844364247891720, 302231454903657293670402, 3450873173395281893717377931051400440288718685277462425357942505078660, 11150372599265311570767859136324180752990146, 332301928266455621973087979948736000, 1048544, 41538215159506443378812958550229984, 2040, 17179869120, 524172, 137438952460, 131064, 16777152, 8388492, 4194056, 77371252455336267180146696, 549755797512, 8796093022144, 19342813113834066793201672, 523852, 75557863725914323418352, 122, 8589934586, 32696, 68719475680, 58, 131064, 492, 1012, 1073739944, 65424, 523852, 549755617036, 295021773603460872832, 4611672824287854560, 506, 4294967240, 36893488147419101196, 9444732860186174144560, 2, 268042114, 9007199237963520, 4076, 4194184, 281474976708608, 34356066360, 506, 536870840, 262114, 1099511627762, 523832, 506, 1073741794, 4082, 2199023255546, 131070, 4090, 262140, 8388546, 1018, 72022109018128268, 4294967288, 549755813880, 9903520314282866260151893552, 696898287454081973172991195980058792556592, 8388556, 268435426, 18014398509480964, 77371252436758643840376840, 4294967266, 33554316, 2097136, 134217604, 49039857307708443467467104868809893728224573418144514052, 2147483596, 8388492, 524172, 5708990770823839524233143877797980545530986432, 33553932, 33553932, 16184, 16184, 1361129467683753853853498429727072780288, 2923003274661805836407369665432566039311865084928, 2032, 65424, 248, 35184372087816, 16777164, 4294967288, 158456325028528675187087892480, 4194176, 1809251394333065553493296640760748560207343510400633813116524750123642388480, 35184372087864, 16776968, 8388360, 34359730184, 131042, 73786976294838204424, 4076, 9444732965739290165256, 2361183241434822605824, 58, 65512, 8589932592, 262024, 549755812872, 8589934344, 268434672, 523852, 34359736368, 131008, 4835703278458501666439112, 8164, 242, 65528, 32756, 1461501637330736755830656912171654425981887705604, 2036, 62, 32, 140707423578120, 262092, 2305841308406643712, 268377612, 2, 1073741324, 274877906924, 36893488147419103212, 134217666, 2147483136, 316912574498608015702086385154, 131058, 536870896, 36819106110638128696, 5575175665808689506056909444217458567137288, 10141204801825835211973625642760, 2147483576, 33554188, 144115188075839500, 713623846352979940529142984724747568157819120, 154742504910672534362390016, 524268, 130992, 22835963083295358096932575511191922182123421696, 65416, 4193800, 58, 4294967234, 205688069665150755269371147819668813122841983204197482918051840, 100433627766186892221372630771322662657637687111424551944192, 134217664, 18446744073709551564, 144115188075855820, 2018, 590295810358705649676, 8388546, 8796093021704, 17592186043904, 274877906816, 154742504910672534362357768, 8796093021964, 2417593384812226415681544, 67108840, 281474975137536, 464227500896959547804991488, 262138, 506, 58, 524274, 268435436, 2096936, 65480, 16777024, 34359332800, 8589474828, 16777184, 2147483576, 288225977030409986, 8589934476, 35184372088802, 36028797018963904, 506, 33554412, 70368744176652, 17179869120, 77371252455336267181191180, 4294967170, 65506, 8388492, 1048456, 374144419156711147060143317175368453031918730969088, 4294967264, 1073740016, 16777164, 178405961588244985132285746181186892047843072, 36028797018963720, 2018, 21267647932558653966460912964485382144, 1008, 1199480478662939383951368, 32764, 4398046510648, 242, 268435440, 2097136, 4082, 16777164, 2097100, 302231454903657293668352, 131048, 1073741792, 8589934530, 4294834956, 65420, 122, 0, 0, 0, 0, 0, 0, 0, 0, 0, 0, 0, 0, 0, 0, 0, 0, 0, 0, 0, 0, 1]
noncomputable def K0 : Kon := ⟨Go.Proofs.Tryz.prog, 1, 101, fun f => masks.getD f 0, fun f => Nat.beq f 252, fun _ => none⟩
end Go.AE

set_option maxRecDepth 10000
namespace Go.AE
open Go.Proofs

theorem k0_mz : MzOk K0 := by
  refine mz_ok (K := K0) (fn := Tryz.f101) (ps := #[3]) (t := 23) (e := 5) Tryz.func101 (by kernel_rfl) (by kernel_rfl) ?_ ?_ ?_
  · kernel_rfl
  · kernel_rfl
  · kernel_rfl

theorem k0_name : ∀ (f : FuncId) (fn : Func), K0.P.funcs[f]? = some fn → fn.body.isSome = true → (fn.name == "runtime.NumGoroutine") = false := by
  have h : (Tryz.prog.funcs.toList.all fun fn => cond fn.body.isSome (!(fn.name == "runtime.NumGoroutine")) true) = true := by kernel_rfl
  intro f fn hf hb
  rw [List.all_eq_true] at h
  have hm : fn ∈ Tryz.prog.funcs.toList := by
    have hf : Tryz.prog.funcs[f]? = some fn := hf
    exact Array.mem_toList_iff.2 (Array.mem_of_getElem? hf)
  have := h fn hm
  rw [hb] at this
  simpa using this

theorem eval_put_same {a : Act} {t : Tmp} {v : Value} (h : t < a.tmps.size) : (a.put (some t) v).eval (.tmp t) = v := by
  simp [Act.put, Act.eval, Array.getD_eq_getD_getElem?, Array.getElem?_setIfInBounds, h]

theorem k0_defs : DefOk K0 := by
  intro f hf
  have hf : f = 252 := Nat.eq_of_beq_eq_true hf
  subst hf
  refine ⟨fun args w => run_enter (P := K0.P) Tryz.func252 rfl (by kernel_rfl), fun m args w => ?_⟩
  refine callsDIn_of_wpSIn Tryz.func252 rfl trivial fun c₀ cs hu => ?_
  have hn : Tryz.f252.ntmps = 15 := Tryz.ntmps252
  rw [hn]
  have hs : 15 ≤ (args ++ Array.replicate (15 - args.size) undef).size := by simp; omega
  generalize args ++ Array.replicate (15 - args.size) undef = tmps at hs
  apply wpSIn_seq
  apply wpSIn_region
  have h1 : 1 < tmps.size := by omega
  have h4 : 4 < tmps.size := by omega
  have h5 : 5 < tmps.size := by omega
  have h6 : 6 < tmps.size := by omega
  simp [wpOpsSIn, go_sem, recoverD, hu, Exit.thenS, h1, h4, h5, h6]
  apply wpSIn_seq
  refine wpSIn_of_wpIn rfl ?_
  apply wpIn_seq
  apply wpIn_region
  have hb : ∀ w, (binOp BinOp.eql 20 Value.nilIface Value.nilIface).run K0.P w = .ok (.bool true) w := fun w => pureOf_run (by kernel_rfl) w
  simp [wpOpsIn, go_sem, h1, h4, h5, h6, Oper.wpIn, Oper.uponIn, Oper.about, hb]
  refine wpIn_cond (t := true) (by simp [Act.eval, h6, Array.getD_eq_getD_getElem?, Array.getElem?_setIfInBounds]) ?_
  simp only [if_true]
  refine wpIn_ret ?_
  cases c₀
  simp_all [bodyPostS, results, Exit.thenS, settle]

theorem k0_base : Base K0 := ⟨k0_mz, by kernel_rfl, k0_name, k0_defs⟩

end Go.AE

namespace Go.AE

def vn (k : IntKind) (n : Nat) : V := .int k (.ofNat n)
def vm (k : IntKind) (n : Nat) : V := .int k (.negSucc n)
def lf (v : V) : T V := .n (some v) .e .e .e .e

def tab0 : Ob := .cells (.n (some (vn .u8 0)) (.n (some (vn .u8 1)) (.n (some (vn .u8 49)) (lf (vn .u8 43)) (lf (vn .u8 41)) (lf (vn .u8 20)) .e) (.n (some (vn .u8 58)) (lf (vn .u8 39)) (lf (vn .u8 35)) (lf (vn .u8 14)) .e) (.n (some (vn .u8 29)) (lf (vn .u8 18)) (lf (vn .u8 32)) (lf (vn .u8 8)) .e) (.n (some (vn .u8 47)) (lf (vn .u8 55)) (lf (vn .u8 26)) .e .e)) (.n (some (vn .u8 56)) (.n (some (vn .u8 28)) (lf (vn .u8 51)) (lf (vn .u8 37)) (lf (vn .u8 31)) .e) (.n (some (vn .u8 42)) (lf (vn .u8 33)) (lf (vn .u8 44)) (lf (vn .u8 19)) .e) (.n (some (vn .u8 17)) (lf (vn .u8 12)) (lf (vn .u8 23)) (lf (vn .u8 7)) .e) (.n (some (vn .u8 59)) (lf (vn .u8 48)) (lf (vn .u8 40)) .e .e)) (.n (some (vn .u8 2)) (.n (some (vn .u8 3)) (lf (vn .u8 22)) (lf (vn .u8 16)) (lf (vn .u8 10)) .e) (.n (some (vn .u8 50)) (lf (vn .u8 30)) (lf (vn .u8 21)) (lf (vn .u8 9)) .e) (.n (some (vn .u8 4)) (lf (vn .u8 5)) (lf (vn .u8 11)) (lf (vn .u8 6)) .e) (.n (some (vn .u8 36)) (lf (vn .u8 27)) (lf (vn .u8 15)) .e .e)) (.n (some (vn .u8 57)) (.n (some (vn .u8 61)) (lf (vn .u8 53)) (lf (vn .u8 46)) (lf (vn .u8 25)) .e) (.n (some (vn .u8 38)) (lf (vn .u8 24)) (lf (vn .u8 52)) (lf (vn .u8 13)) .e) (.n (some (vn .u8 62)) (lf (vn .u8 63)) (lf (vn .u8 54)) .e .e) (.n (some (vn .u8 45)) (lf (vn .u8 60)) (lf (vn .u8 34)) .e .e))) 64 0 1

noncomputable def S0 : FuncId → Option Sm := fun _ => none
theorem S0_ok : ∀ f k, S0 f = some k → SumOk K0 f k := fun f k h => by cases h

end Go.AE

namespace Go.AE

/-- the one package-level variable that is laid -/
def TabAt (W : World) : Prop := ∃ cs ty, W.heap[0]? = some (.cells cs ty (0, 0)) ∧ ∀ g, ObR K0 g W ⟨0, 0, 64, 1⟩ tab0

/-- a call out of a world in which the table is laid -/
theorem apply1 {K : Kon} (hg : K.g = 1) {t0 t1 : T Ob} {n0 n1 : Nat} {f : FuncId} {vs : List V} {xs : List Value} {b : Bool} (h : CallOk K t0 n0 f vs (.bool b) t1 n1) (ht0 : ∀ i ob, t0.get i = some ob → i = 0 ∧ ob = tab0) (hn0 : 1 ≤ n0) {W : World}
    (hW : ∀ g, ObR K g W ⟨0, 0, 64, 1⟩ tab0) (hvs : ∀ g, VRs g vs xs) : Calls K.P f ⟨xs⟩ W fun e W' => e = .returned (.bool b) ∧ ∀ may, W.keptBut W' may := by
  have hR : Rep K (fun i => if i = 0 then some ⟨0, 0, 64, 1⟩ else none) t0 W := by
    refine ⟨fun i ob hi => ?_, fun i j a b e f hi hj gi gj hne => ?_, fun i hi => ?_⟩
    · obtain ⟨rfl, rfl⟩ := ht0 i ob hi
      exact ⟨_, if_pos rfl, hW _⟩
    · have := (ht0 i a hi).1
      have := (ht0 j b hj).1
      omega
    · have : i = 0 := by omega
      subst this
      exact ⟨_, if_pos rfl, rfl, rfl, (hW (fun _ => none)).lt⟩
  have hN : NB (fun i => if i = 0 then some ⟨0, 0, 64, 1⟩ else none) n0 := fun i e hi => by
    by_cases h0 : i = 0
    · omega
    · simp only [if_neg h0] at hi; cases hi
  refine (h.2 _ W xs hR hN (hvs _)).mono ?_
  rintro e W' ⟨x, g', rfl, hv, hs, hr, _, _⟩
  have hv : x = .bool b := hv
  subst hv
  refine ⟨rfl, fun may => ⟨hs.os, hs.out, fun i hi => ?_⟩⟩
  have hk := hs.keep i hi fun ⟨j, ob, e, h0, h1, _⟩ => by
    have := (ht0 j ob h1).1
    omega
  rw [hk]
  cases hh : W.heap[i]? with
  | none => rfl
  | some o => cases o <;> simp

/-- a law carried out once: true -/
noncomputable def ckL (K : Kon) (N : Nat) (f : FuncId) (vs : List V) : Bool :=
  okR (mkK [(0, tab0)] .e fun t0 => lvl K N (.inl f) vs t0 1 fun v t n => test (eqV v (.bool true)) done)

theorem law_ok {K : Kon} {S : FuncId → Option Sm} (hK : Base K) (hg : K.g = 1) (hs : ∀ f k, S f = some k → SumOk K f k) {N : Nat} {f : FuncId} {vs : List V} {xs : List Value} (h : ckL (K.with S) N f vs = true) {W : World}
    (hW : ∀ g, ObR K g W ⟨0, 0, 64, 1⟩ tab0) (hvs : ∀ g, VRs g vs xs) : Calls K.P f ⟨xs⟩ W fun e W' => e = .returned (.bool true) ∧ ∀ may, W.keptBut W' may := by
  unfold ckL at h
  have hne : (mkK [(0, tab0)] .e fun t0 => lvl (K.with S) N (.inl f) vs t0 1 fun v t n => test (eqV v (.bool true)) done) ≠ .fail := fun e => by rw [e] at h; cases h
  obtain ⟨t0, q1, q2⟩ := mkK_ne hne
  rw [q1] at hne
  obtain ⟨v, t1, n1, c1, c2⟩ := (hK.text hs N f) _ _ _ _ hne
  rw [c1] at hne
  obtain ⟨d1, _⟩ := test_ne hne
  have e1 := eqV_eq d1
  subst e1
  refine apply1 hg c2 (fun i ob hi => ?_) (Nat.le_refl 1) hW hvs
  rcases q2 i ob hi with h1 | h1
  · rw [List.mem_singleton] at h1
    cases h1
    exact ⟨rfl, rfl⟩
  · simp [get_e] at h1

/-- an array of numbers, read -/
theorem ints_of_trod {H : Type} {enc : TypeId × Value → H} {P : Program} {w : World} {base : Nat} {spare : Nat → Bool} {held : Bool} {m : Nat} {t : TypeId} {k : IntKind} {n : Int} {v : Value} {p : List MemPlace} (ht : P.underlying t = some (.int k))
    (h : DataW.trod enc P w base spare held m t [v] = some (.lit (.int k n), p)) : v = .int k n := by
  cases m with
  | zero => simp [DataW.trod] at h
  | succ m =>
    unfold DataW.trod at h
    rw [ht] at h
    cases v <;> simp at h
    obtain ⟨⟨rfl, _⟩, rfl, _⟩ := h
    rfl

theorem cells_of_trod {H : Type} {enc : TypeId × Value → H} {P : Program} {w : World} {base : Nat} {spare : Nat → Bool} {held : Bool} {m : Nat} {t e : TypeId} {N : Nat} {k : IntKind} {ns : List Int} {cs : List Value} {p : List MemPlace} (ht : P.underlying t = some (.array N e)) (he : P.underlying e = some (.int k)) (hc : P.cellsOf e = 1)
    (hsz : P.cellsOf t = N) (h : DataW.trod enc P w base spare held m t cs = some (.agg (ns.map fun n => .lit (.int k n)), p)) : cs = ns.map fun n => .int k n := by
  obtain ⟨xs, m', rfl, ex, hl, hn, hx⟩ := DataW.trod_array ht h
  simp only [Prod.mk.injEq, DataW.agg.injEq] at ex
  obtain ⟨ex, _⟩ := ex
  have hxl : xs.length = ns.length := by
    have := congrArg List.length ex
    simpa using this.symm
  refine List.ext_getElem? fun i => ?_
  by_cases hi : i < N
  · have h1 := hx i hi
    rw [hc] at h1
    have hi' : i < cs.length := by omega
    have e1 : (cs.drop (i * 1)).take 1 = [cs[i]] := by
      rw [Nat.mul_one, List.drop_eq_getElem_cons hi']; rfl
    rw [e1] at h1
    have hix : i < xs.length := by omega
    rw [List.getElem?_eq_getElem hix] at h1
    have hin : i < ns.length := by omega
    have h2 := congrArg (fun l => l[i]?) ex
    simp only [List.getElem?_map, List.getElem?_eq_getElem hix, List.getElem?_eq_getElem hin, Option.map_some, Option.some.injEq] at h2
    have h3 : xs[i] = (.lit (.int k ns[i]), xs[i].2) := by rw [h2]
    rw [h3] at h1
    have := ints_of_trod he h1
    rw [List.getElem?_eq_getElem hi', this]
    simp [hin]
  · rw [List.getElem?_eq_none (by omega), List.getElem?_eq_none (by simp; omega)]

end Go.AE
