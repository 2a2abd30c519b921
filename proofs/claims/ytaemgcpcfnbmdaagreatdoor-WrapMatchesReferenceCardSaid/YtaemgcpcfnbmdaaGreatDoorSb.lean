/-
  The walks: each function computes its plain function: printed by a program out of the translation.
-/
import Derived.Test.YtaemgcpcfnbmdaaGreatDoorSa
set_option linter.unusedVariables false
set_option linter.unusedSimpArgs false
set_option maxRecDepth 100000
namespace Go.Proofs.YtaemgcpcfnbmdaaGreatDoor.LG
open Go Go.LG Go.RowKit Go.Value
set_option maxHeartbeats 1000000
open Go.Lib Go.Shelf Go.Proofs
theorem jR {a1 a2 p x n a22 I J s y A B C t E G L w} (H : cJ a1 a2 p x n a22 = some E) (hI : Hp G (bx s [slice y p.Glyphs.length A, slice B p.Kerns.length C] 25 :: bx t [int .i64 x] 3 :: L) w) (aj : a2.length ≤ J) (ak : Dat aS G I a2) (Q : p.Glyphs.length ≤ A) (R : Dat au G y p.Glyphs) (S : p.Kerns.length ≤ C) (T : Dat ay G B p.Kerns) (M : Gl G) :
    Calls Tryz.prog 101 [agg [string a1, slice I a2.length J, func (.func 70) [].toArray [pointer (some ⟨s, 0, none⟩), pointer (some ⟨t, 0, none⟩)].toArray].toArray, int .i64 n, agg [int .i64 a22.At, bool a22.Hyphen].toArray].toArray w fun e w' => Hp G (bx s [slice y p.Glyphs.length A, slice B p.Kerns.length C] 25 :: bx t [int .i64 x] 3 :: L) w' ∧ e = .returned (agg [int .i64 E.From, int .i64 E.Until, int .i64 E.Width, bool E.Hyphen].toArray) := by
 refine ac (N := 24) Tryz.func101 z z (Nat.le_of_ble_eq_true z)<|?_
 unfold cJ at H
 refine sr fun al U=>io hI z z fun u am V=>io V z z fun q an W=>aM W mO fun F ao X=>nl<|U _ _ _<|sQ fun aq Y=>bK H fun K Z H=>bK H fun v aa H=>?_
 refine eC [0, 0, 2, 0, 8, 0, 32, 0, 0, 256, 0, 1024, 4064, 8184, 0, 16384, 65535, 131071] (fun D r w => (D 17 = false ∧ ∃ (G' : Gh), G ≤ G' ∧ ap [(1, int .i64 n), (3, pointer (some ⟨u, 0, none⟩)), (5, pointer (some ⟨q, 0, none⟩)), (6, pointer (some ⟨F, 0, none⟩))] [] [(0, 7, int .i64 n), (1, 8, pointer (some ⟨q, 0, none⟩)), (2, 9, int .i64 a22.At), (3, 10, pointer (some ⟨u, 2, none⟩)), (4, 11, func (.func 70) [].toArray [pointer (some ⟨s, 0, none⟩), pointer (some ⟨t, 0, none⟩)].toArray), (5, 12, pointer (some ⟨u, 0, none⟩)), (6, 13, string a1), (7, 14, int .i64 n), (8, 15, pointer (some ⟨q, 0, none⟩)), (9, 16, int .i64 a22.At), (10, 17, pointer (some ⟨q, 1, none⟩)), (11, 18, bool a22.Hyphen), (12, 19, string K), (13, 20, int .i64 v), (14, 21, pointer (some ⟨q, 1, none⟩)), (15, 22, bool a22.Hyphen), (16, 23, agg [int .i64 n, int .i64 a22.At, int .i64 v, bool a22.Hyphen].toArray)] D r ∧ Hp G' (bx F [int .i64 0, int .i64 0, int .i64 0, bool false] 46 :: bx q [int .i64 a22.At, bool a22.Hyphen] 114 :: bx u [string a1, slice I a2.length J, func (.func 70) [].toArray [pointer (some ⟨s, 0, none⟩), pointer (some ⟨t, 0, none⟩)].toArray] 79 :: bx s [slice y p.Glyphs.length A, slice B p.Kerns.length C] 25 :: bx t [int .i64 x] 3 :: L) w) ∨ (D 17 = true ∧ ∃ (G' : Gh), G ≤ G' ∧ ap [(1, int .i64 n), (3, pointer (some ⟨u, 0, none⟩)), (5, pointer (some ⟨q, 0, none⟩)), (6, pointer (some ⟨F, 0, none⟩))] [] [(0, 7, int .i64 n), (1, 8, pointer (some ⟨q, 0, none⟩)), (2, 9, int .i64 a22.At), (3, 10, pointer (some ⟨u, 2, none⟩)), (4, 11, func (.func 70) [].toArray [pointer (some ⟨s, 0, none⟩), pointer (some ⟨t, 0, none⟩)].toArray), (5, 12, pointer (some ⟨u, 0, none⟩)), (6, 13, string a1), (7, 14, int .i64 n), (8, 15, pointer (some ⟨q, 0, none⟩)), (9, 16, int .i64 a22.At), (10, 17, pointer (some ⟨q, 1, none⟩)), (11, 18, bool a22.Hyphen), (12, 19, string K), (13, 20, int .i64 v), (14, 21, pointer (some ⟨q, 1, none⟩)), (15, 22, bool a22.Hyphen), (16, 23, agg [int .i64 n, int .i64 a22.At, int .i64 v, bool a22.Hyphen].toArray)] D r ∧ Hp G' (bx F [int .i64 n, int .i64 a22.At, int .i64 v, bool a22.Hyphen] 46 :: bx q [int .i64 a22.At, bool a22.Hyphen] 114 :: bx u [string a1, slice I a2.length J, func (.func 70) [].toArray [pointer (some ⟨s, 0, none⟩), pointer (some ⟨t, 0, none⟩)].toArray] 79 :: bx s [slice y p.Glyphs.length A, slice B p.Kerns.length C] 25 :: bx t [int .i64 x] 3 :: L) w)) jD z z ?_ ?_ ?_
 exact (.inl ⟨z, _, Gh.le_refl _, ap.start ⟨z, z, z, z, tv⟩ trivial, X.drew⟩)
 refine ⟨?_, ?_, ?_, ?_, ?_, ?_, ?_, ?_, ?_, ?_, ?_, ?_, ?_, ?_, ?_, ?_, ?_, ?_, tv⟩
 rintro D r l (⟨f, d, c, a, b⟩ | ⟨h, d, c, a, b⟩) i j k
 obtain ⟨m, rfl⟩ := Has.ex (cC (a.ins.get 0 rfl) cN)
 exact mv z<|nl ⟨z, (.inl ⟨f, _, c, (ap.step a i z z z z), b⟩)⟩
 cases (k 17 rfl).symm.trans h
 rintro D r l (⟨f, d, c, a, b⟩ | ⟨h, d, c, a, b⟩) i j k
 obtain ⟨m, rfl⟩ := Has.ex (cC (a.ins.get 2 rfl) cN)
 exact fa rC z<|nl ⟨z, (.inl ⟨f, _, c, (ap.step a i z z z z), b⟩)⟩
 cases (k 17 rfl).symm.trans h
 rintro D r l (⟨f, d, c, a, b⟩ | ⟨h, d, c, a, b⟩) i j k
 obtain ⟨m, rfl⟩ := Has.ex (cC (a.get 1 rfl (j 1 rfl)) cN)
 exact ld b 1 bv z z z<|nl ⟨z, (.inl ⟨f, _, c, (ap.step a i z z z z), b⟩)⟩
 cases (k 17 rfl).symm.trans h
 rintro D r l (⟨f, d, c, a, b⟩ | ⟨h, d, c, a, b⟩) i j k
 obtain ⟨m, rfl⟩ := Has.ex (cC (a.ins.get 1 rfl) cN)
 exact fa Dv z<|nl ⟨z, (.inl ⟨f, _, c, (ap.step a i z z z z), b⟩)⟩
 cases (k 17 rfl).symm.trans h
 rintro D r l (⟨f, d, c, a, b⟩ | ⟨h, d, c, a, b⟩) i j k
 obtain ⟨m, rfl⟩ := Has.ex (cC (a.get 3 rfl (j 3 rfl)) cN)
 exact ld b 2 ag62 z z z<|nl ⟨z, (.inl ⟨f, _, c, (ap.step a i z z z z), b⟩)⟩
 cases (k 17 rfl).symm.trans h
 rintro D r l (⟨f, d, c, a, b⟩ | ⟨h, d, c, a, b⟩) i j k
 obtain ⟨m, rfl⟩ := Has.ex (cC (a.ins.get 1 rfl) cN)
 exact fa Bd z<|nl ⟨z, (.inl ⟨f, _, c, (ap.step a i z z z z), b⟩)⟩
 cases (k 17 rfl).symm.trans h
 rintro D r l (⟨f, d, c, a, b⟩ | ⟨h, d, c, a, b⟩) i j k
 obtain ⟨m, rfl⟩ := Has.ex (cC (a.get 5 rfl (j 5 rfl)) cN)
 exact ld b 2 qU z z z<|nl ⟨z, (.inl ⟨f, _, c, (ap.step a i z z z z), b⟩)⟩
 cases (k 17 rfl).symm.trans h
 rintro D r l (⟨f, d, c, a, b⟩ | ⟨h, d, c, a, b⟩) i j k
 obtain ⟨m, rfl⟩ := Has.ex (cC (a.ins.get 0 rfl) cN)
 exact mv z<|nl ⟨z, (.inl ⟨f, _, c, (ap.step a i z z z z), b⟩)⟩
 cases (k 17 rfl).symm.trans h
 rintro D r l (⟨f, d, c, a, b⟩ | ⟨h, d, c, a, b⟩) i j k
 obtain ⟨m, rfl⟩ := Has.ex (cC (a.ins.get 2 rfl) cN)
 exact fa rC z<|nl ⟨z, (.inl ⟨f, _, c, (ap.step a i z z z z), b⟩)⟩
 cases (k 17 rfl).symm.trans h
 rintro D r l (⟨f, d, c, a, b⟩ | ⟨h, d, c, a, b⟩) i j k
 obtain ⟨m, rfl⟩ := Has.ex (cC (a.get 8 rfl (j 8 rfl)) cN)
 exact ld b 1 bv z z z<|nl ⟨z, (.inl ⟨f, _, c, (ap.step a i z z z z), b⟩)⟩
 cases (k 17 rfl).symm.trans h
 rintro D r l (⟨f, d, c, a, b⟩ | ⟨h, d, c, a, b⟩) i j k
 obtain ⟨m, rfl⟩ := Has.ex (cC (a.ins.get 2 rfl) cN)
 exact fa rE z<|nl ⟨z, (.inl ⟨f, _, c, (ap.step a i z z z z), b⟩)⟩
 cases (k 17 rfl).symm.trans h
 rintro D r l (⟨f, d, c, a, b⟩ | ⟨h, d, c, a, b⟩) i j k
 obtain ⟨m, rfl⟩ := Has.ex (cC (a.get 10 rfl (j 10 rfl)) cN)
 exact ld b 1 zU z z z<|nl ⟨z, (.inl ⟨f, _, c, (ap.step a i z z z z), b⟩)⟩
 cases (k 17 rfl).symm.trans h
 rintro D r l (⟨f, d, c, a, b⟩ | ⟨h, d, c, a, b⟩) i j k
 obtain ⟨m, rfl⟩ := Has.ex (cC (a.get 6 rfl (j 6 rfl)) (cC (a.get 7 rfl (j 7 rfl)) (cC (a.get 9 rfl (j 9 rfl)) (cC (a.get 11 rfl (j 11 rfl)) cN))))
 exact cv E1 (oJ Z b (M.mono c)) z z fun ar ab=>nl ⟨z, (.inl ⟨f, _, c, (ap.step a i z z z z), ab⟩)⟩
 cases (k 17 rfl).symm.trans h
 rintro D r l (⟨f, d, c, a, b⟩ | ⟨h, d, c, a, b⟩) i j k
 obtain ⟨m, rfl⟩ := Has.ex (cC (a.get 4 rfl (j 4 rfl)) (cC (a.get 12 rfl (j 12 rfl)) cN))
 exact have ad:=Hp.pick 5 [3, 4, 0, 1, 2] b z;cv bo70 (oi aa ad Q (Dat.mono c R) S (Dat.mono c T)) z z fun av ae=>have af:=Hp.pick 5 [2, 3, 4, 0, 1] ae z;nl ⟨z, (.inl ⟨f, _, c, (ap.step a i z z z z), af⟩)⟩
 cases (k 17 rfl).symm.trans h
 rintro D r l (⟨f, d, c, a, b⟩ | ⟨h, d, c, a, b⟩) i j k
 obtain ⟨m, rfl⟩ := Has.ex (cC (a.ins.get 2 rfl) cN)
 exact fa rE z<|nl ⟨z, (.inl ⟨f, _, c, (ap.step a i z z z z), b⟩)⟩
 cases (k 17 rfl).symm.trans h
 rintro D r l (⟨f, d, c, a, b⟩ | ⟨h, d, c, a, b⟩) i j k
 obtain ⟨m, rfl⟩ := Has.ex (cC (a.get 14 rfl (j 14 rfl)) cN)
 exact ld b 1 zU z z z<|nl ⟨z, (.inl ⟨f, _, c, (ap.step a i z z z z), b⟩)⟩
 cases (k 17 rfl).symm.trans h
 rintro D r l (⟨f, d, c, a, b⟩ | ⟨h, d, c, a, b⟩) i j k
 obtain ⟨m, rfl⟩ := Has.ex (cC (a.get 0 rfl (j 0 rfl)) (cC (a.get 2 rfl (j 2 rfl)) (cC (a.get 13 rfl (j 13 rfl)) (cC (a.get 15 rfl (j 15 rfl)) cN))))
 exact bO (vs := [(0, int .i64 n), (1, int .i64 a22.At), (2, int .i64 v), (3, bool a22.Hyphen)]) (cs := [int .i64 n, int .i64 a22.At, int .i64 v, bool a22.Hyphen]) mO xR z z<|nl ⟨z, (.inl ⟨f, _, c, (ap.step a i z z z z), b⟩)⟩
 cases (k 17 rfl).symm.trans h
 rintro D r l (⟨f, d, c, a, b⟩ | ⟨h, d, c, a, b⟩) i j k
 obtain ⟨m, rfl⟩ := Has.ex (cC (a.ins.get 3 rfl) (cC (a.get 16 rfl (j 16 rfl)) cN))
 exact fX b 0 gy z z z z z z z fun aw ag=>nl ⟨z, (.inr ⟨z, _, c, (ap.stepN a z z), ag⟩)⟩
 cases i.symm.trans h
 intro D r l O hR
 rcases hR with ⟨f, d, c, a, b⟩ | ⟨h, d, c, a, b⟩
 cases (O 17 (Nat.le_of_ble_eq_true rfl)).symm.trans f
 obtain ⟨m, rfl⟩ := Has.ex (cC (a.ins.get 3 rfl) cN)
 refine Y _ _ _<|wr<|have ah:=bW (P := Tryz.prog) b 0 (cs := [int .i64 n, int .i64 a22.At, int .i64 v, bool a22.Hyphen]) (g := F) (o := 0) gy z z z;have ai:=Hp.pick 5 [3, 4] b z;?_
 cases H
 exact rt ⟨_, _, _, z, z, ah, z⟩ (Hp.low c ai)
theorem gQ {a1 a2 i I C a22 k m p S T U V q ag G L w} (H : b5 a1 a2 i I C a22 = some ag) (hI : Hp G (bx p [slice S i.Glyphs.length T, slice U i.Kerns.length V] 25 :: bx q [int .i64 I] 3 :: L) w) (W : a2.length ≤ m) (Y : Dat aS G k a2) (aE : i.Glyphs.length ≤ T) (aF : Dat au G S i.Glyphs) (aH : i.Kerns.length ≤ V) (aI : Dat ay G U i.Kerns) (aD : Gl G) :
    Calls Tryz.prog 74 [agg [string a1, slice k a2.length m, func (.func 70) [].toArray [pointer (some ⟨p, 0, none⟩), pointer (some ⟨q, 0, none⟩)].toArray].toArray, int .i64 C, int .i64 a22].toArray w fun e w' => Hp G (bx p [slice S i.Glyphs.length T, slice U i.Kerns.length V] 25 :: bx q [int .i64 I] 3 :: L) w' ∧ e = .returned (agg [int .i64 ag.From, int .i64 ag.Until, int .i64 ag.Width, bool ag.Hyphen].toArray) := by
 refine iH (N := 39) Tryz.func74 z z (Nat.le_of_ble_eq_true z)<|?_
 unfold b5 at H
 refine sr fun b4 aU=>io hI z z fun X b6 aV=>io aV z z fun Q b7 aW=>io aW z z fun ac b8 aX=>aM aX mO fun R b9 aY=>nl<|aU _ _ _<|sr fun ca aZ=>qG (vs := []) (us := [pointer (some ⟨Q, 0, none⟩)]) z z<|aj z<|nl<|aZ _ _ _<|sQ fun cb a0=>?_
 refine ie aY jD (by kernel_rfl) ?_
 refine di (fun Gq w hGq Iq=>fa Bl z aK) z z<|di (fun Gq w hGq Iq=>ld Iq 3 xF z z z aK) z z<|di (fun Gq w hGq Iq=>fa Bl z aK) z z<|di (fun Gq w hGq Iq=>ld Iq 3 xF z z z aK) z z<|di (fun Gq w hGq Iq=>mv z aK) z z<|bK H fun b a3 H=>wk (vs := [slice k a2.length m, func (.func 99) [].toArray [pointer (some ⟨Q, 0, none⟩)].toArray]) (v := int .i64 b) EJ z z (fun Gq w hGq Iq => ?_) ?_
 refine have a4:=Hp.pick 6 [2, 0, 1, 3, 4, 5] Iq z;Calls.mono (kW a3 a4 W (Dat.mono hGq Y))<|?_
 rintro _ w2 ⟨I2, rfl⟩
 exact have a6:=Hp.pick 6 [1, 2, 0, 3, 4, 5] I2 z;⟨z, _, hGq, a6⟩
 refine iK H fun⟨ai, ak⟩H=>di (fun Gq w hGq Iq=>DZ (l := b) (h := (a2.length : Int)) p7 z (.inr ⟨_, z, z⟩) (.inl ⟨z, z⟩) W ai ak (Int.le_refl _) (Dat.cut (l := b) (h := (a2.length : Int)) Y W ai ak (Int.le_refl _)).1 aK) z z<|di (fun Gq w hGq Iq=>aj z aK) z z<|wz fun cd ce J a7=>a0 _ _ _<|sQ fun cf a8=>sr fun cg ba=>mv z<|bK H fun al bb H=>fU (vs := [slice (if m = Int.toNat b then k else Option.map (fun a => Addr.add a (Int.toNat b * 2)) k) (fk a2 b (a2.length : Int)).length (m - Int.toNat b)]) DT z z (mc (a1 := fk a2 b (a2.length : Int)) bb a7 ((Dat.cut (l := b) (h := (a2.length : Int)) Y W ai ak (Int.le_refl _)).2.1) (Dat.mono J (Dat.cut (l := b) (h := (a2.length : Int)) Y W ai ak (Int.le_refl _)).2.2))<|?_
 rintro _ ch ⟨am, an, ao, bc, O, bd, be, bf, rfl⟩
 refine ⟨_, rfl, ?_⟩
 refine nl<|ba _ _ _<|wb<|?_
 obtain ⟨⟨⟨aq, ar, av, aw⟩, bg⟩, bh, H⟩ := bS H
 refine mj bd DE z fun fn tmps gl ad ci bi aJ=>?_
 have bj : Yl Tryz.prog (j5 (fun (u : Int × Int × Int × Bool) (x : Int × ah) => bM a1 a2 i I C a22 u.1 u.2.1 u.2.2.1 u.2.2.2 x.1 x.2)) (vi (enc1 (Kd.int .i64)) (encS aS)) _ gl := ni (pp := [22, 23]) (gdd := ad) aJ (fun (u : Int × Int × Int × Bool) (x : Int × ah) => bM a1 a2 i I C a22 u.1 u.2.1 u.2.2.1 u.2.2.2 x.1 x.2) [Code.ret] (fun (u : Int × Int × Int × Bool) (G' : Gh) (K : List eP) => ∃ (_ : bc ≤ G'), K = bx R [int .i64 u.1, int .i64 u.2.1, int .i64 u.2.2.1, bool u.2.2.2] 46 :: bx ac [int .i64 a22] 3 :: bx Q [int .i64 C] 3 :: bx X [string a1, slice k a2.length m, func (.func 70) [].toArray [pointer (some ⟨p, 0, none⟩), pointer (some ⟨q, 0, none⟩)].toArray] 79 :: bx p [slice S i.Glyphs.length T, slice U i.Kerns.length V] 25 :: bx q [int .i64 I] 3 :: (List.map uO (ad :: ([] : List Nat)) ++ L) ∧ True) bi (fun _ _ _ h => (fun h => rQ (fun h => nt h) (fun h => r7 h) h) h) (fun hG' ⟨bk, hK', _⟩ => ⟨gT bk hG', hK', tv⟩) (by
 rintro Rd Bs ⟨aq, ar, av, aw⟩ u' ⟨bl, bm⟩ jo' cj K M ck vs ⟨af, rfl, _⟩ ⟨_, _, rfl, ⟨_, rfl, bn⟩, ⟨_, rfl, bo⟩⟩ H bp
 cases bn
 obtain ⟨rfl⟩ := dU bo
 replace H : bM a1 a2 i I C a22 aq ar av aw bl bm = some (u', jo') := H
 unfold bM at H
 refine ae<|aM bp mR fun cl cm bq=>fX bq 0 s0 z z z z z z z fun cn br=>nl<|have bs:=Hp.pick 8 [1, 0, 2, 3, 4, 5, 6, 7] br z;?_
 refine ⟨rfl, rfl, _, _, gR, bs, fun co aA => ?_⟩
 refine wb<|sr fun cp bt=>d9 aA 5 m2 z z z z<|ld aA 4 bv z z z<|d9 aA 1 s0 z z z z<|have bu:=Hp.pick 8 [6, 7, 0, 1, 2, 3, 4, 5] aA z;bK H fun bw bz H=>cv CC (jR bz bu W (Dat.mono (gT (gT J O) af) Y) aE (Dat.mono (gT (gT J O) af) aF) aH (Dat.mono (gT (gT J O) af) aI) (aD.mono (gT (gT J O) af))) z z fun cq bA=>aM bA mO fun cr ct bB=>fX bB 0 gy z z z z z z z fun cu ax=>nl<|bt _ _ _<|sr fun cw bC=>fa ng z<|?_
 refine ld ax 0 bv z z z<|ld ax 6 bv z z z<|eI z z<|nl<|bC _ _ _<|dC (bw.Width ≤ a22) (fun az=>?_) fun az=>?_
 refine yK az H fun H=>wt (bY az)<|sr fun cx bD=>d9 ax 0 gy z z z z<|fX ax 5 gy z z z z z z z fun cy bE=>nl<|bD _ _ _<|wr<|have bF:=Hp.pick 9 [3, 5, 6, 7, 8, 1, 2] bE z;?_
 cases H
 exact ⟨(.inl ⟨z, z⟩), _, _, gR, ⟨af, z, tv⟩, bF⟩
 refine nK az H fun H=>wf (bN az)<|ws<|have bG:=Hp.pick 9 [3, 5, 6, 7, 8, 1, 2] ax z;?_
 cases H
 exact ⟨z, _, _, gR, ⟨af, z, tv⟩, bG⟩)
 refine have bH:=Hp.sink (A := [bx am [slice an al.length ao] 77]) (K := [bx R [int .i64 0, int .i64 0, int .i64 0, bool false] 46, bx ac [int .i64 a22] 3, bx Q [int .i64 C] 3, bx X [string a1, slice k a2.length m, func (.func 70) [].toArray [pointer (some ⟨p, 0, none⟩), pointer (some ⟨q, 0, none⟩)].toArray] 79, bx p [slice S i.Glyphs.length T, slice U i.Kerns.length V] 25, bx q [int .i64 I] 3]) aJ;(kD (sy := ((0, 0, 0, false), none)) bh bH be bf bj ⟨_, z, Gh.le_refl _, z, tv⟩).mono<|?_
 rintro _ cz ⟨cA, aB, cB, bI, ⟨K, rfl, Z, rfl, _⟩, rfl⟩
 refine have aL:=Hp.front bI 1 z;?_
 rcases bg with _ | j
 refine ⟨_, rfl, LoopState.ready, none, aB, _, (fun h => nomatch h), aL, fun bJ aC => ?_⟩
 refine a8 _ _ _<|sQ fun cD bL=>iK H fun⟨aN, aO⟩H=>?_
 obtain ⟨aP, cE, bO, bQ, cF, bR⟩ := Dat.get (Dat.mono (gT (gT J O) Z) (Dat.cut (l := b) (h := (a2.length : Int)) Y W ai ak (Int.le_refl _)).2.2) aG (0) aN aO
 obtain ⟨rfl⟩ := dU bQ
 refine bK H fun n bT H=>?_
 refine eC [0, 0, 0, 4, 12, 31, 63] (fun D r w => (D 6 = false ∧ ∃ (G' : Gh), aB ≤ G' ∧ ap [(3, pointer (some ⟨X, 0, none⟩)), (4, pointer (some ⟨Q, 0, none⟩)), (6, pointer (some ⟨R, 0, none⟩)), (8, slice (if m = Int.toNat b then k else Option.map (fun a => Addr.add a (Int.toNat b * 2)) k) (fk a2 b (a2.length : Int)).length (m - Int.toNat b))] [] [(0, 33, agg [string a1, slice k a2.length m, func (.func 70) [].toArray [pointer (some ⟨p, 0, none⟩), pointer (some ⟨q, 0, none⟩)].toArray].toArray), (1, 34, int .i64 C), (2, 35, slice (if m = Int.toNat b then k else Option.map (fun a => Addr.add a (Int.toNat b * 2)) k) (fk a2 b (a2.length : Int)).length (m - Int.toNat b)), (3, 36, pointer (some (aP.add (Int.toNat 0 * 2)))), (4, 37, agg [int .i64 (((fk a2 b (a2.length : Int)).getD (Int.toNat 0) aG).At), bool (((fk a2 b (a2.length : Int)).getD (Int.toNat 0) aG).Hyphen)].toArray), (5, 38, agg [int .i64 n.From, int .i64 n.Until, int .i64 n.Width, bool n.Hyphen].toArray)] D r ∧ Hp G' (bx am [slice an al.length ao] 77 :: bx R [int .i64 aq, int .i64 ar, int .i64 av, bool aw] 46 :: bx ac [int .i64 a22] 3 :: bx Q [int .i64 C] 3 :: bx X [string a1, slice k a2.length m, func (.func 70) [].toArray [pointer (some ⟨p, 0, none⟩), pointer (some ⟨q, 0, none⟩)].toArray] 79 :: bx p [slice S i.Glyphs.length T, slice U i.Kerns.length V] 25 :: bx q [int .i64 I] 3 :: (List.map uO (ad :: ([] : List Nat)) ++ L)) w) ∨ (D 6 = true ∧ ∃ (G' : Gh), aB ≤ G' ∧ ap [(3, pointer (some ⟨X, 0, none⟩)), (4, pointer (some ⟨Q, 0, none⟩)), (6, pointer (some ⟨R, 0, none⟩)), (8, slice (if m = Int.toNat b then k else Option.map (fun a => Addr.add a (Int.toNat b * 2)) k) (fk a2 b (a2.length : Int)).length (m - Int.toNat b))] [] [(0, 33, agg [string a1, slice k a2.length m, func (.func 70) [].toArray [pointer (some ⟨p, 0, none⟩), pointer (some ⟨q, 0, none⟩)].toArray].toArray), (1, 34, int .i64 C), (2, 35, slice (if m = Int.toNat b then k else Option.map (fun a => Addr.add a (Int.toNat b * 2)) k) (fk a2 b (a2.length : Int)).length (m - Int.toNat b)), (3, 36, pointer (some (aP.add (Int.toNat 0 * 2)))), (4, 37, agg [int .i64 (((fk a2 b (a2.length : Int)).getD (Int.toNat 0) aG).At), bool (((fk a2 b (a2.length : Int)).getD (Int.toNat 0) aG).Hyphen)].toArray), (5, 38, agg [int .i64 n.From, int .i64 n.Until, int .i64 n.Width, bool n.Hyphen].toArray)] D r ∧ Hp G' (bx am [slice an al.length ao] 77 :: bx R [int .i64 n.From, int .i64 n.Until, int .i64 n.Width, bool n.Hyphen] 46 :: bx ac [int .i64 a22] 3 :: bx Q [int .i64 C] 3 :: bx X [string a1, slice k a2.length m, func (.func 70) [].toArray [pointer (some ⟨p, 0, none⟩), pointer (some ⟨q, 0, none⟩)].toArray] 79 :: bx p [slice S i.Glyphs.length T, slice U i.Kerns.length V] 25 :: bx q [int .i64 I] 3 :: (List.map uO (ad :: ([] : List Nat)) ++ L)) w)) jD z z ?_ ?_ ?_
 exact (.inl ⟨z, _, Gh.le_refl _, ap.start ⟨z, z, z, z, tv⟩ trivial, aC.drew⟩)
 refine ⟨?_, ?_, ?_, ?_, ?_, ?_, ?_, tv⟩
 rintro D r aa (⟨t, s, d, c, f⟩ | ⟨y, s, d, c, f⟩) B E F
 obtain ⟨r0, rfl⟩ := Has.ex (cC (c.ins.get 0 rfl) cN)
 exact d9 f 4 m2 z z z z<|nl ⟨z, (.inl ⟨t, _, d, (ap.step c B z z z z), f⟩)⟩
 cases (F 6 rfl).symm.trans y
 rintro D r aa (⟨t, s, d, c, f⟩ | ⟨y, s, d, c, f⟩) B E F
 obtain ⟨r0, rfl⟩ := Has.ex (cC (c.ins.get 1 rfl) cN)
 exact ld f 3 bv z z z<|nl ⟨z, (.inl ⟨t, _, d, (ap.step c B z z z z), f⟩)⟩
 cases (F 6 rfl).symm.trans y
 rintro D r aa (⟨t, s, d, c, f⟩ | ⟨y, s, d, c, f⟩) B E F
 obtain ⟨r0, rfl⟩ := Has.ex (cC (c.ins.get 3 rfl) cN)
 exact mv z<|nl ⟨z, (.inl ⟨t, _, d, (ap.step c B z z z z), f⟩)⟩
 cases (F 6 rfl).symm.trans y
 rintro D r aa (⟨t, s, d, c, f⟩ | ⟨y, s, d, c, f⟩) B E F
 obtain ⟨r0, rfl⟩ := Has.ex (cC (c.get 2 rfl (E 2 rfl)) cN)
 exact bP p7 z bO z aN aO<|nl ⟨z, (.inl ⟨t, _, d, (ap.step c B z z z z), f⟩)⟩
 cases (F 6 rfl).symm.trans y
 rintro D r aa (⟨t, s, d, c, f⟩ | ⟨y, s, d, c, f⟩) B E F
 obtain ⟨r0, rfl⟩ := Has.ex (cC (c.get 3 rfl (E 3 rfl)) cN)
 exact ki f s0 z (cs := [int .i64 (((fk a2 b (a2.length : Int)).getD (Int.toNat 0) aG).At), bool (((fk a2 b (a2.length : Int)).getD (Int.toNat 0) aG).Hyphen)]) z (fun j v hv => d.cel _ _ (bR j v hv))<|nl ⟨z, (.inl ⟨t, _, d, (ap.step c B z z z z), f⟩)⟩
 cases (F 6 rfl).symm.trans y
 rintro D r aa (⟨t, s, d, c, f⟩ | ⟨y, s, d, c, f⟩) B E F
 obtain ⟨r0, rfl⟩ := Has.ex (cC (c.get 0 rfl (E 0 rfl)) (cC (c.get 1 rfl (E 1 rfl)) (cC (c.get 4 rfl (E 4 rfl)) cN)))
 exact have bU:=Hp.pick 7 [5, 6, 0, 1, 2, 3, 4] f z;cv CC (jR (a22 := ((fk a2 b (a2.length : Int)).getD (Int.toNat 0) aG)) bT bU W (Dat.mono (gT (gT (gT J O) Z) d) Y) aE (Dat.mono (gT (gT (gT J O) Z) d) aF) aH (Dat.mono (gT (gT (gT J O) Z) d) aI) (aD.mono (gT (gT (gT J O) Z) d))) z z fun cG bV=>have bX:=Hp.pick 7 [2, 3, 4, 5, 6, 0, 1] bV z;nl ⟨z, (.inl ⟨t, _, d, (ap.step c B z z z z), bX⟩)⟩
 cases (F 6 rfl).symm.trans y
 rintro D r aa (⟨t, s, d, c, f⟩ | ⟨y, s, d, c, f⟩) B E F
 obtain ⟨r0, rfl⟩ := Has.ex (cC (c.ins.get 2 rfl) (cC (c.get 5 rfl (E 5 rfl)) cN))
 exact fX f 1 gy z z z z z z z fun cH bZ=>nl ⟨z, (.inr ⟨z, _, d, (ap.stepN c z z), bZ⟩)⟩
 cases B.symm.trans y
 intro D r aa aT hR
 rcases hR with ⟨t, s, d, c, f⟩ | ⟨y, s, d, c, f⟩
 cases (aT 6 (Nat.le_of_ble_eq_true rfl)).symm.trans t
 obtain ⟨r0, rfl⟩ := Has.ex (cC (c.ins.get 2 rfl) cN)
 refine bL _ _ _<|wr<|?_
 refine ⟨.inr rfl, (ad :: ([] : List Nat)), _, _, rfl, Hp.marks (K := [bx am [slice an al.length ao] 77, bx R [int .i64 n.From, int .i64 n.Until, int .i64 n.Width, bool n.Hyphen] 46, bx ac [int .i64 a22] 3, bx Q [int .i64 C] 3, bx X [string a1, slice k a2.length m, func (.func 70) [].toArray [pointer (some ⟨p, 0, none⟩), pointer (some ⟨q, 0, none⟩)].toArray] 79, bx p [slice S i.Glyphs.length T, slice U i.Kerns.length V] 25, bx q [int .i64 I] 3]) f, fun cI aQ => ?_⟩
 refine have b0:=bW (P := Tryz.prog) aQ 1 (cs := [int .i64 n.From, int .i64 n.Until, int .i64 n.Width, bool n.Hyphen]) (g := R) (o := 0) gy z z z;have b1:=Hp.pick 7 [5, 6] aQ z;?_
 cases H
 exact ⟨_, ⟨_, _, _, z, z, b0, z⟩, (Hp.low (gT (gT (gT J O) Z) d) b1), z⟩
 rcases j with _ | j
 refine ⟨_, rfl, LoopState.done, (some Code.ret), aB, _, (fun h => nomatch h), aL, fun bJ aC => ?_⟩
 refine ⟨.inr rfl, (ad :: ([] : List Nat)), _, _, rfl, Hp.marks (K := [bx am [slice an al.length ao] 77, bx R [int .i64 aq, int .i64 ar, int .i64 av, bool aw] 46, bx ac [int .i64 a22] 3, bx Q [int .i64 C] 3, bx X [string a1, slice k a2.length m, func (.func 70) [].toArray [pointer (some ⟨p, 0, none⟩), pointer (some ⟨q, 0, none⟩)].toArray] 79, bx p [slice S i.Glyphs.length T, slice U i.Kerns.length V] 25, bx q [int .i64 I] 3]) aC, fun cJ aR => ?_⟩
 refine have b2:=bW (P := Tryz.prog) aR 1 (cs := [int .i64 aq, int .i64 ar, int .i64 av, bool aw]) (g := R) (o := 0) gy z z z;have b3:=Hp.pick 7 [5, 6] aR z;?_
 cases H
 exact ⟨_, ⟨_, _, _, z, z, b2, z⟩, (Hp.low (gT (gT J O) Z) b3), z⟩
 cases H
theorem mE {σ : Type} {St : σ → Gh → List eP → Prop} {yl} {φ : σ → az → Option (σ × Bool)} {sy : σ} {B a4 q a22 k C J K t M O P R u E y A} {ry : σ} {G T w} (H : db φ sy B a4 q a22 k = some ry) (hI : Hp G (bx C [string B, slice J a4.length K, func (.func 70) [].toArray [pointer (some ⟨t, 0, none⟩), pointer (some ⟨u, 0, none⟩)].toArray] 79 :: bx t [slice M q.Glyphs.length O, slice P q.Kerns.length R] 25 :: bx u [int .i64 a22] 3 :: bx E [slice y k.length A] 44 :: T) w) (al : a4.length ≤ K) (am : Dat aS G J a4) (an : q.Glyphs.length ≤ O) (ao : Dat au G M q.Glyphs) (ar : q.Kerns.length ≤ R) (av : Dat ay G P q.Kerns) (bj : k.length ≤ A) (aN : Dat (Kd.int .i64) G y k) (hy : Yl Tryz.prog φ (encS jf) St yl) (hS : St sy G T) (ak : Gl G) :
    Calls Tryz.prog 72 [func (.yield yl) #[] #[], pointer (some ⟨C, 0, none⟩), pointer (some ⟨E, 0, none⟩)].toArray w fun e w' => ∃ (T' : List eP) (G' : Gh), G ≤ G' ∧ Hp G' (bx C [string B, slice J a4.length K, func (.func 70) [].toArray [pointer (some ⟨t, 0, none⟩), pointer (some ⟨u, 0, none⟩)].toArray] 79 :: bx t [slice M q.Glyphs.length O, slice P q.Kerns.length R] 25 :: bx u [int .i64 a22] 3 :: bx E [slice y k.length A] 44 :: T') w' ∧ St ry G' T' ∧ e = .returned (tuple [].toArray) := by
 refine ac (N := 38) Tryz.func72 z z (Nat.le_of_ble_eq_true z)<|?_
 unfold db at H
 refine sr fun bk aO=>aj z<|aj z<|nl<|aO _ _ _<|wb<|bK H fun aw hC H=>?_
 refine aq (Q := fun e r ds w => e = .ret ∧ ∃ (Z : List eP) (aa : Gh), ds = [] ∧ G ≤ aa ∧ Has [] r ∧ Hp aa (bx C [string B, slice J a4.length K, func (.func 70) [].toArray [pointer (some ⟨t, 0, none⟩), pointer (some ⟨u, 0, none⟩)].toArray] 79 :: bx t [slice M q.Glyphs.length O, slice P q.Kerns.length R] 25 :: bx u [int .i64 a22] 3 :: bx E [slice y k.length A] 44 :: Z) w ∧ St aw aa Z ∧ True) ?_ ?_
 refine aB fun I aL=>?_
 refine bo.partial_correctness φ B a4 q a22 k (fun S v aA o => ∀ (U : List eP) (V : Gh) (r : Rg) (w : World), G ≤ V → Has [(0, func (.yield yl) #[] #[]), (1, pointer (some ⟨C, 0, none⟩)), (2, pointer (some ⟨E, 0, none⟩)), (4, int .i64 S), (5, int .i64 v)] r → Hp V (bx C [string B, slice J a4.length K, func (.func 70) [].toArray [pointer (some ⟨t, 0, none⟩), pointer (some ⟨u, 0, none⟩)].toArray] 79 :: bx t [slice M q.Glyphs.length O, slice P q.Kerns.length R] 25 :: bx u [int .i64 a22] 3 :: bx E [slice y k.length A] 44 :: U) w → St aA V U → o = aw → I r [] w) ?_ 0 0 sy _ hC T _ _ _ gR ⟨rfl, rfl, rfl, rfl, rfl, tv⟩ hI hS rfl
 intro _ ih S v aA o H U V r bl L W aC aD ho
 rw [ho] at H; clear ho
 rw [W.eq]; clear W
 refine aL _ _ _<|sQ fun bm aP=>wb<|sr fun bn aQ=>fa Bd z<|ld aC 0 qU z z z<|mv z<|iK H fun⟨aR, aT⟩H=>ug (l := S) (h := (B.size : Int)) fA z (.inr ⟨_, z, z⟩) (.inl ⟨z, z⟩) aR aT (Int.le_refl _)<|iJ H fun aU bp aV H=>cv Ec (pt aV aC) z z fun bq aE=>mv z<|cK z z<|cK z z<|?_
 refine aj z<|aj z<|nl<|aQ _ _ _<|sQ fun br aW=>sr fun bs aX=>mv z<|bA z z<|nl<|aX _ _ _<|dC (aU = 0) (fun X=>?_) fun X=>?_
 refine yK X H fun H=>wt (bY X)<|wr<|?_
 cases H
 exact ⟨z, U, _, z, L, trivial, aE, aD, tv⟩
 refine nK X H fun H=>wf (bN X)<|ws<|aW _ _ _<|sQ fun bt aY=>iK H fun⟨ad, af⟩H=>?_
 obtain ⟨ag, bu, aF, aZ, bw, aG⟩ := Dat.get (Dat.mono L aN) (0 : Int) (min v (ax ((k.length : Int) - 1))) ad af
 obtain rfl := aZ
 refine bK H fun s aH H=>?_
 refine eC [0, 0, 0, 0, 0, 16, 48, 120, 252, 508, 1023, 0, 4095] (fun D r w => (D 11 = false ∧ ∃ (G' : Gh), V ≤ G' ∧ ap [(0, func (.yield yl) #[] #[]), (1, pointer (some ⟨C, 0, none⟩)), (2, pointer (some ⟨E, 0, none⟩)), (4, int .i64 S), (5, int .i64 v)] [] [(0, 21, agg [string B, slice J a4.length K, func (.func 70) [].toArray [pointer (some ⟨t, 0, none⟩), pointer (some ⟨u, 0, none⟩)].toArray].toArray), (1, 22, int .i64 S), (2, 23, slice y k.length A), (3, 24, int .i64 v), (4, 25, slice y k.length A), (5, 26, int .i64 (k.length : Int)), (6, 27, int .i64 (ax ((k.length : Int) - 1))), (7, 28, int .i64 (min v (ax ((k.length : Int) - 1)))), (8, 29, pointer (some (ag.add (Int.toNat (min v (ax ((k.length : Int) - 1))) * 1)))), (9, 30, int .i64 (k.getD (Int.toNat (min v (ax ((k.length : Int) - 1)))) (0 : Int))), (10, 31, agg [int .i64 s.From, int .i64 s.Until, int .i64 s.Width, bool s.Hyphen].toArray)] D r ∧ Hp G' (bx C [string B, slice J a4.length K, func (.func 70) [].toArray [pointer (some ⟨t, 0, none⟩), pointer (some ⟨u, 0, none⟩)].toArray] 79 :: bx t [slice M q.Glyphs.length O, slice P q.Kerns.length R] 25 :: bx u [int .i64 a22] 3 :: bx E [slice y k.length A] 44 :: U) w) ∨ (D 11 = true ∧ D 12 = false ∧ ∃ (g : Nat) (G' : Gh), V ≤ G' ∧ ap [(0, func (.yield yl) #[] #[]), (1, pointer (some ⟨C, 0, none⟩)), (2, pointer (some ⟨E, 0, none⟩)), (4, int .i64 S), (5, int .i64 v)] [] [(0, 21, agg [string B, slice J a4.length K, func (.func 70) [].toArray [pointer (some ⟨t, 0, none⟩), pointer (some ⟨u, 0, none⟩)].toArray].toArray), (1, 22, int .i64 S), (2, 23, slice y k.length A), (3, 24, int .i64 v), (4, 25, slice y k.length A), (5, 26, int .i64 (k.length : Int)), (6, 27, int .i64 (ax ((k.length : Int) - 1))), (7, 28, int .i64 (min v (ax ((k.length : Int) - 1)))), (8, 29, pointer (some (ag.add (Int.toNat (min v (ax ((k.length : Int) - 1))) * 1)))), (9, 30, int .i64 (k.getD (Int.toNat (min v (ax ((k.length : Int) - 1)))) (0 : Int))), (10, 31, agg [int .i64 s.From, int .i64 s.Until, int .i64 s.Width, bool s.Hyphen].toArray), (11, 8, pointer (some ⟨g, 0, none⟩))] D r ∧ Hp G' (bx g [int .i64 0, int .i64 0, int .i64 0, bool false] 46 :: bx C [string B, slice J a4.length K, func (.func 70) [].toArray [pointer (some ⟨t, 0, none⟩), pointer (some ⟨u, 0, none⟩)].toArray] 79 :: bx t [slice M q.Glyphs.length O, slice P q.Kerns.length R] 25 :: bx u [int .i64 a22] 3 :: bx E [slice y k.length A] 44 :: U) w) ∨ (D 12 = true ∧ ∃ (g : Nat) (G' : Gh), V ≤ G' ∧ ap [(0, func (.yield yl) #[] #[]), (1, pointer (some ⟨C, 0, none⟩)), (2, pointer (some ⟨E, 0, none⟩)), (4, int .i64 S), (5, int .i64 v)] [] [(0, 21, agg [string B, slice J a4.length K, func (.func 70) [].toArray [pointer (some ⟨t, 0, none⟩), pointer (some ⟨u, 0, none⟩)].toArray].toArray), (1, 22, int .i64 S), (2, 23, slice y k.length A), (3, 24, int .i64 v), (4, 25, slice y k.length A), (5, 26, int .i64 (k.length : Int)), (6, 27, int .i64 (ax ((k.length : Int) - 1))), (7, 28, int .i64 (min v (ax ((k.length : Int) - 1)))), (8, 29, pointer (some (ag.add (Int.toNat (min v (ax ((k.length : Int) - 1))) * 1)))), (9, 30, int .i64 (k.getD (Int.toNat (min v (ax ((k.length : Int) - 1)))) (0 : Int))), (10, 31, agg [int .i64 s.From, int .i64 s.Until, int .i64 s.Width, bool s.Hyphen].toArray), (11, 8, pointer (some ⟨g, 0, none⟩))] D r ∧ Hp G' (bx g [int .i64 s.From, int .i64 s.Until, int .i64 s.Width, bool s.Hyphen] 46 :: bx C [string B, slice J a4.length K, func (.func 70) [].toArray [pointer (some ⟨t, 0, none⟩), pointer (some ⟨u, 0, none⟩)].toArray] 79 :: bx t [slice M q.Glyphs.length O, slice P q.Kerns.length R] 25 :: bx u [int .i64 a22] 3 :: bx E [slice y k.length A] 44 :: U) w)) jD z z ?_ ?_ ?_
 exact (.inl ⟨z, _, Gh.le_refl _, ap.start ⟨z, z, z, z, z, tv⟩ trivial, aE.drew⟩)
 refine ⟨?_, ?_, ?_, ?_, ?_, ?_, ?_, ?_, ?_, ?_, ?_, ?_, ?_, tv⟩
 rintro D r F (⟨d, i, b, a, c⟩ | ⟨f, d, g, i, b, a, c⟩ | ⟨f, g, i, b, a, c⟩) j m n
 obtain ⟨p, rfl⟩ := Has.ex (cC (a.ins.get 1 rfl) cN)
 exact d9 c 0 m2 z z z z<|nl ⟨z, (.inl ⟨d, _, b, (ap.step a j z z z z), c⟩)⟩
 obtain ⟨p, rfl⟩ := Has.ex (cC (a.ins.get 1 rfl) cN)
 exact d9 c 1 m2 z z z z<|nl ⟨z, (.inr (.inl ⟨f, d, g, _, b, (ap.step a j z z z z), c⟩))⟩
 cases (n 12 rfl).symm.trans f
 rintro D r F (⟨d, i, b, a, c⟩ | ⟨f, d, g, i, b, a, c⟩ | ⟨f, g, i, b, a, c⟩) j m n
 obtain ⟨p, rfl⟩ := Has.ex (cC (a.ins.get 3 rfl) cN)
 exact mv z<|nl ⟨z, (.inl ⟨d, _, b, (ap.step a j z z z z), c⟩)⟩
 obtain ⟨p, rfl⟩ := Has.ex (cC (a.ins.get 3 rfl) cN)
 exact mv z<|nl ⟨z, (.inr (.inl ⟨f, d, g, _, b, (ap.step a j z z z z), c⟩))⟩
 cases (n 12 rfl).symm.trans f
 rintro D r F (⟨d, i, b, a, c⟩ | ⟨f, d, g, i, b, a, c⟩ | ⟨f, g, i, b, a, c⟩) j m n
 obtain ⟨p, rfl⟩ := Has.ex (cC (a.ins.get 2 rfl) cN)
 exact ld c 3 oO z z z<|nl ⟨z, (.inl ⟨d, _, b, (ap.step a j z z z z), c⟩)⟩
 obtain ⟨p, rfl⟩ := Has.ex (cC (a.ins.get 2 rfl) cN)
 exact ld c 4 oO z z z<|nl ⟨z, (.inr (.inl ⟨f, d, g, _, b, (ap.step a j z z z z), c⟩))⟩
 cases (n 12 rfl).symm.trans f
 rintro D r F (⟨d, i, b, a, c⟩ | ⟨f, d, g, i, b, a, c⟩ | ⟨f, g, i, b, a, c⟩) j m n
 obtain ⟨p, rfl⟩ := Has.ex (cC (a.ins.get 4 rfl) cN)
 exact mv z<|nl ⟨z, (.inl ⟨d, _, b, (ap.step a j z z z z), c⟩)⟩
 obtain ⟨p, rfl⟩ := Has.ex (cC (a.ins.get 4 rfl) cN)
 exact mv z<|nl ⟨z, (.inr (.inl ⟨f, d, g, _, b, (ap.step a j z z z z), c⟩))⟩
 cases (n 12 rfl).symm.trans f
 rintro D r F (⟨d, i, b, a, c⟩ | ⟨f, d, g, i, b, a, c⟩ | ⟨f, g, i, b, a, c⟩) j m n
 obtain ⟨p, rfl⟩ := Has.ex (cC (a.ins.get 2 rfl) cN)
 exact ld c 3 oO z z z<|nl ⟨z, (.inl ⟨d, _, b, (ap.step a j z z z z), c⟩)⟩
 obtain ⟨p, rfl⟩ := Has.ex (cC (a.ins.get 2 rfl) cN)
 exact ld c 4 oO z z z<|nl ⟨z, (.inr (.inl ⟨f, d, g, _, b, (ap.step a j z z z z), c⟩))⟩
 cases (n 12 rfl).symm.trans f
 rintro D r F (⟨d, i, b, a, c⟩ | ⟨f, d, g, i, b, a, c⟩ | ⟨f, g, i, b, a, c⟩) j m n
 obtain ⟨p, rfl⟩ := Has.ex (cC (a.get 4 rfl (m 4 rfl)) cN)
 exact q_len lg z<|nl ⟨z, (.inl ⟨d, _, b, (ap.step a j z z z z), c⟩)⟩
 obtain ⟨p, rfl⟩ := Has.ex (cC (a.get 4 rfl (m 4 rfl)) cN)
 exact q_len lg z<|nl ⟨z, (.inr (.inl ⟨f, d, g, _, b, (ap.step a j z z z z), c⟩))⟩
 cases (n 12 rfl).symm.trans f
 rintro D r F (⟨d, i, b, a, c⟩ | ⟨f, d, g, i, b, a, c⟩ | ⟨f, g, i, b, a, c⟩) j m n
 obtain ⟨p, rfl⟩ := Has.ex (cC (a.get 5 rfl (m 5 rfl)) cN)
 exact dl z z<|nl ⟨z, (.inl ⟨d, _, b, (ap.step a j z z z z), c⟩)⟩
 obtain ⟨p, rfl⟩ := Has.ex (cC (a.get 5 rfl (m 5 rfl)) cN)
 exact dl z z<|nl ⟨z, (.inr (.inl ⟨f, d, g, _, b, (ap.step a j z z z z), c⟩))⟩
 cases (n 12 rfl).symm.trans f
 rintro D r F (⟨d, i, b, a, c⟩ | ⟨f, d, g, i, b, a, c⟩ | ⟨f, g, i, b, a, c⟩) j m n
 obtain ⟨p, rfl⟩ := Has.ex (cC (a.get 3 rfl (m 3 rfl)) (cC (a.get 6 rfl (m 6 rfl)) cN))
 exact wn z z<|nl ⟨z, (.inl ⟨d, _, b, (ap.step a j z z z z), c⟩)⟩
 obtain ⟨p, rfl⟩ := Has.ex (cC (a.get 3 rfl (m 3 rfl)) (cC (a.get 6 rfl (m 6 rfl)) cN))
 exact wn z z<|nl ⟨z, (.inr (.inl ⟨f, d, g, _, b, (ap.step a j z z z z), c⟩))⟩
 cases (n 12 rfl).symm.trans f
 rintro D r F (⟨d, i, b, a, c⟩ | ⟨f, d, g, i, b, a, c⟩ | ⟨f, g, i, b, a, c⟩) j m n
 obtain ⟨p, rfl⟩ := Has.ex (cC (a.get 2 rfl (m 2 rfl)) (cC (a.get 7 rfl (m 7 rfl)) cN))
 exact bP dI z aF z ad af<|nl ⟨z, (.inl ⟨d, _, b, (ap.step a j z z z z), c⟩)⟩
 obtain ⟨p, rfl⟩ := Has.ex (cC (a.get 2 rfl (m 2 rfl)) (cC (a.get 7 rfl (m 7 rfl)) cN))
 exact bP dI z aF z ad af<|nl ⟨z, (.inr (.inl ⟨f, d, g, _, b, (ap.step a j z z z z), c⟩))⟩
 cases (n 12 rfl).symm.trans f
 rintro D r F (⟨d, i, b, a, c⟩ | ⟨f, d, g, i, b, a, c⟩ | ⟨f, g, i, b, a, c⟩) j m n
 obtain ⟨p, rfl⟩ := Has.ex (cC (a.get 8 rfl (m 8 rfl)) cN)
 exact fO c bv z (b.cel _ _ (aG 0 _ z))<|nl ⟨z, (.inl ⟨d, _, b, (ap.step a j z z z z), c⟩)⟩
 obtain ⟨p, rfl⟩ := Has.ex (cC (a.get 8 rfl (m 8 rfl)) cN)
 exact fO c bv z (b.cel _ _ (aG 0 _ z))<|nl ⟨z, (.inr (.inl ⟨f, d, g, _, b, (ap.step a j z z z z), c⟩))⟩
 cases (n 12 rfl).symm.trans f
 rintro D r F (⟨d, i, b, a, c⟩ | ⟨f, d, g, i, b, a, c⟩ | ⟨f, g, i, b, a, c⟩) j m n
 obtain ⟨p, rfl⟩ := Has.ex (cC (a.get 0 rfl (m 0 rfl)) (cC (a.get 1 rfl (m 1 rfl)) (cC (a.get 9 rfl (m 9 rfl)) cN)))
 exact have a0:=Hp.pick 4 [1, 2, 0, 3] c z;cv DC (gQ aH a0 al (Dat.mono (gT L b) am) an (Dat.mono (gT L b) ao) ar (Dat.mono (gT L b) av) (ak.mono (gT L b))) z z fun a1 ah=>have a2:=Hp.pick 4 [2, 0, 1, 3] ah z;nl ⟨z, (.inl ⟨d, _, b, (ap.step a j z z z z), a2⟩)⟩
 obtain ⟨p, rfl⟩ := Has.ex (cC (a.get 0 rfl (m 0 rfl)) (cC (a.get 1 rfl (m 1 rfl)) (cC (a.get 9 rfl (m 9 rfl)) cN)))
 exact have a5:=Hp.pick 5 [2, 3, 0, 1, 4] c z;cv DC (gQ aH a5 al (Dat.mono (gT L b) am) an (Dat.mono (gT L b) ao) ar (Dat.mono (gT L b) av) (ak.mono (gT L b))) z z fun a1 ah=>have a6:=Hp.pick 5 [2, 3, 0, 1, 4] ah z;nl ⟨z, (.inr (.inl ⟨f, d, g, _, b, (ap.step a j z z z z), a6⟩))⟩
 cases (n 12 rfl).symm.trans f
 rintro D r F (⟨d, i, b, a, c⟩ | ⟨f, d, g, i, b, a, c⟩ | ⟨f, g, i, b, a, c⟩) j m n
 obtain ⟨p, rfl⟩ := Has.ex (r := r) cN
 exact aM c mO fun g bz a7=>nl ⟨z, (.inr (.inl ⟨z, (n 12 z), g, _, b, (ap.step (ap.more (new := [(11, 8, pointer (some ⟨g, 0, none⟩))]) a (List.forall_mem_cons.2 ⟨j, (fun _ h => nomatch h)⟩)) j z z z z), a7⟩))⟩
 cases j.symm.trans f
 cases (n 12 rfl).symm.trans f
 rintro D r F (⟨d, i, b, a, c⟩ | ⟨f, d, g, i, b, a, c⟩ | ⟨f, g, i, b, a, c⟩) j m n
 cases (m 11 rfl).symm.trans d
 obtain ⟨p, rfl⟩ := Has.ex (cC (a.get 11 rfl (m 11 rfl)) (cC (a.get 10 rfl (m 10 rfl)) cN))
 exact fX c 0 gy z z z z z z z fun bB a8=>nl ⟨z, (.inr (.inr ⟨z, g, _, b, (ap.stepN a z z), a8⟩))⟩
 cases j.symm.trans f
 intro D r F ab hR
 rcases hR with ⟨d, i, b, a, c⟩ | ⟨f, d, g, i, b, a, c⟩ | ⟨f, g, i, b, a, c⟩
 cases (ab 11 (Nat.le_of_ble_eq_true rfl)).symm.trans d
 cases (ab 12 (Nat.le_of_ble_eq_true rfl)).symm.trans d
 obtain ⟨p, rfl⟩ := Has.ex (cC (a.ins.get 0 rfl) (cC (a.ins.get 1 rfl) (cC (a.ins.get 2 rfl) (cC (a.ins.get 4 rfl) (cC (a.get 11 rfl (ab 11 (Nat.le_of_ble_eq_true rfl))) cN)))))
 refine aY _ _ _<|sQ fun bC a9=>sr fun bD bb=>mv z<|d9 c 0 gy z z z z<|iJ H fun bE bc hx349 H=>vP hy [bx g [int .i64 s.From, int .i64 s.Until, int .i64 s.Width, bool s.Hyphen] 46, bx C [string B, slice J a4.length K, func (.func 70) [].toArray [pointer (some ⟨t, 0, none⟩), pointer (some ⟨u, 0, none⟩)].toArray] 79, bx t [slice M q.Glyphs.length O, slice P q.Kerns.length R] 25, bx u [int .i64 a22] 3, bx E [slice y k.length A] 44] c (hy.mono b aD) z z ⟨_, z, (sX (x := s))⟩ hx349 fun bF bG aI aJ aK ai=>be z<|nl<|bb _ _ _<|dC ((!bc) = true) (fun Y=>?_) fun Y=>?_
 refine yK Y H fun H=>wt (vY Y)<|wr<|have bd:=Hp.pick 5 [1, 2, 3, 4] ai z;?_
 cases H
 exact ⟨z, aI, _, z, (gT (gT L b) aJ), trivial, bd, aK, tv⟩
 refine nK Y H fun H=>wf (vN Y)<|ws<|a9 _ _ _<|ae<|fa nG z<|ld ai 0 bv z z z<|aj z<|nl<|aP _ _ _<|ae<|mv z<|ba z z<|aj z<|?_
 exact nl<|have bf:=Hp.pick 5 [1, 2, 3, 4] ai z;ih _ _ _ _ H aI _ _ _ (gT (gT L b) aJ) ⟨z, z, z, z, z, tv⟩ bf aK z
 rintro e r ds bH ⟨rfl, Z, aa, rfl, bg, W, bh, bi, _⟩
 rw [W.eq]; clear W
 cases H
 exact ⟨.inr z, z, _, z, Z, _, bg, bh, bi, z⟩
theorem lc {k a4 b a22 i l m n f o p q r g s t v y G L w} (H : cx k a4 b a22 i = some y) (hI : Hp G (bx l [string k, slice m a4.length n, func (.func 70) [].toArray [pointer (some ⟨f, 0, none⟩), pointer (some ⟨g, 0, none⟩)].toArray] 79 :: bx f [slice o b.Glyphs.length p, slice q b.Kerns.length r] 25 :: bx g [int .i64 a22] 3 :: bx s [slice t i.length v] 44 :: L) w) (V : a4.length ≤ n) (W : Dat aS G m a4) (X : b.Glyphs.length ≤ p) (Y : Dat au G o b.Glyphs) (Z : b.Kerns.length ≤ r) (aa : Dat ay G q b.Kerns) (ab : i.length ≤ v) (ac : Dat (Kd.int .i64) G t i) (U : Gl G) :
    Calls Tryz.prog 71 [slice none 0 0, func (.func 72) [].toArray [pointer (some ⟨l, 0, none⟩), pointer (some ⟨s, 0, none⟩)].toArray].toArray w fun e w' => ∃ (F : Option Addr) (I : Nat) (G' : Gh), G ≤ G' ∧ Hp G' (tk (slice F y.length I) 4 46 :: bx l [string k, slice m a4.length n, func (.func 70) [].toArray [pointer (some ⟨f, 0, none⟩), pointer (some ⟨g, 0, none⟩)].toArray] 79 :: bx f [slice o b.Glyphs.length p, slice q b.Kerns.length r] 25 :: bx g [int .i64 a22] 3 :: bx s [slice t i.length v] 44 :: L) w' ∧ y.length ≤ I ∧ Dat jf G' F y ∧ Own F I ∧ e = .returned (slice F y.length I) := by
 refine iH (N := 13) Tryz.func71 z z (Nat.le_of_ble_eq_true z)<|?_
 unfold cx at H
 refine sr fun aU ad=>io hI z z fun J aV af=>aj z<|nl<|ad _ _ _<|sQ fun aW ag=>sr fun aX ah=>mv z<|nl<|ah _ _ _<|wb<|have ai:=Hp.emp af;have ak:=Hp.pick 6 [2, 3, 4, 5, 1, 0] ai z;iJ H fun B al am H=>?_
 refine mj ak bo72 z fun fn tmps gl O aY an Q=>?_
 have ao : Yl Tryz.prog (j5 (fun (u : (List az)) (x : az) => aP u x)) (encS jf) _ gl := ni (pp := [7]) (gdd := O) Q (fun (u : (List az)) (x : az) => aP u x) [] (fun (u : (List az)) (G' : Gh) (K : List eP) => ∃ (c : Option Addr) (d : Nat) (_ : G ≤ G'), K = bx J [slice c u.length d] 41 :: tk (slice c u.length d) 4 46 :: (List.map uO (O :: ([] : List Nat)) ++ L) ∧ u.length ≤ d ∧ Dat jf G' c u ∧ Own c d ∧ True) an (fun _ _ _ h => (fun h => r7 h) h) (fun hG' ⟨c, d, ap, hK', C, D, E, _⟩ => ⟨c, d, gT ap hG', hK', C, (Dat.mono hG' D), E, tv⟩) (by
 rintro Rd Bs B u' a jo' aZ K M a0 vs ⟨c, d, aq, rfl, C, D, E, _⟩ ⟨_, rfl, ar⟩ H av
 obtain ⟨rfl⟩ := uu ar
 replace H : aP B a = some (u', jo') := H
 unfold aP at H
 refine ae<|aM av mO fun a1 a2 aw=>fX aw 0 gy z z z z z z z fun a5 ax=>nl<|have aA:=Hp.pick 4 [1, 0, 2, 3] ax z;?_
 refine ⟨rfl, rfl, _, _, gR, aA, fun a6 P => ?_⟩
 refine wb<|ae<|ld P 2 Df z z z<|d9 P 1 gy z z z z<|?_
 refine mm P (vs := [(0, agg [int .i64 a.From, int .i64 a.Until, int .i64 a.Width, bool a.Hyphen].toArray)]) (cs := [int .i64 a.From, int .i64 a.Until, int .i64 a.Width, bool a.Hyphen]) EX mO rfl (by decide) rfl rfl (fun a7 a8 R => ?_)
 refine iK H fun a9 H=>?_
 refine lu (xs := B) (ys := [a]) jf R 4 EX mO rfl rfl rfl rfl E C D (jF R 0 so41 rfl rfl) ⟨[int .i64 a.From, int .i64 a.Until, int .i64 a.Width, bool a.Hyphen], _, rfl, (sX (x := a)), rfl⟩ rfl (by simp only [List.length_cons, List.length_nil]; omega) (by simp only [List.length_cons, List.length_nil]; omega) (fun aB aC ba bb S aD aE aF aG => ?_)
 refine fX aG 3 Df z z z z z z z fun bc aH=>nl<|have aI:=Hp.pick 5 [1, 3, 4] aH z;?_
 cases H
 exact ⟨z, _, _, S, ⟨aB, aC, (gT aq S), z, aE, aF, aD, tv⟩, aI⟩)
 refine have aJ:=Hp.sink (A := [bx l [string k, slice m a4.length n, func (.func 70) [].toArray [pointer (some ⟨f, 0, none⟩), pointer (some ⟨g, 0, none⟩)].toArray] 79, bx f [slice o b.Glyphs.length p, slice q b.Kerns.length r] 25, bx g [int .i64 a22] 3, bx s [slice t i.length v] 44]) (K := [bx J [slice none 0 0] 41, tk (slice none 0 0) 4 46]) Q;(mE (sy := (([] : List az), none)) am aJ V W X Y Z aa ab ac ao ⟨_, z, none, 0, Gh.le_refl _, z, (show ([] : List az).length ≤ 0 from Nat.le_refl 0), (Dat.nil _ _ _), Own.nil, tv⟩ (U.mono gR)).mono<|?_
 rintro _ bd ⟨be, aK, bf, aL, ⟨K, rfl, c, d, aN, rfl, C, D, E, _⟩, rfl⟩
 refine have aO:=Hp.front aL 4 z;?_
 rcases al with _ | j
 refine ⟨_, rfl, LoopState.ready, none, aK, _, (fun h => nomatch h), aO, fun bg T => ?_⟩
 refine ag _ _ _<|sr fun bh aQ=>ld T 4 Df z z z<|aj z<|nl<|aQ _ _ _<|wr<|?_
 refine ⟨.inr rfl, (O :: ([] : List Nat)), _, _, rfl, Hp.marks (K := [bx l [string k, slice m a4.length n, func (.func 70) [].toArray [pointer (some ⟨f, 0, none⟩), pointer (some ⟨g, 0, none⟩)].toArray] 79, bx f [slice o b.Glyphs.length p, slice q b.Kerns.length r] 25, bx g [int .i64 a22] 3, bx s [slice t i.length v] 44, bx J [slice c B.length d] 41, tk (slice c B.length d) 4 46]) T, fun bi aR => ?_⟩
 refine have aT:=Hp.pick 6 [5, 0, 1, 2, 3] aR z;?_
 cases H
 exact ⟨_, ⟨_, _, z, z, z⟩, c, d, _, aN, aT, C, D, E, z⟩
 cases H
theorem lP {k a4 a a22 b d l m f n o p q g h r s c G L w} (H : cP k a4 a a22 b = some c) (hI : Hp G (bx d [string k, slice l a4.length m, func (.func 70) [].toArray [pointer (some ⟨f, 0, none⟩), pointer (some ⟨g, 0, none⟩)].toArray] 79 :: bx f [slice n a.Glyphs.length o, slice p a.Kerns.length q] 25 :: bx g [int .i64 a22] 3 :: bx h [slice r b.length s] 44 :: L) w) (u : a4.length ≤ m) (v : Dat aS G l a4) (x : a.Glyphs.length ≤ o) (y : Dat au G n a.Glyphs) (A : a.Kerns.length ≤ q) (B : Dat ay G p a.Kerns) (C : b.length ≤ s) (D : Dat (Kd.int .i64) G r b) (t : Gl G) :
    Calls Tryz.prog 36 [func (.func 72) [].toArray [pointer (some ⟨d, 0, none⟩), pointer (some ⟨h, 0, none⟩)].toArray].toArray w fun e w' => ∃ (i : Option Addr) (j : Nat) (G' : Gh), G ≤ G' ∧ Hp G' (tk (slice i c.length j) 4 46 :: bx d [string k, slice l a4.length m, func (.func 70) [].toArray [pointer (some ⟨f, 0, none⟩), pointer (some ⟨g, 0, none⟩)].toArray] 79 :: bx f [slice n a.Glyphs.length o, slice p a.Kerns.length q] 25 :: bx g [int .i64 a22] 3 :: bx h [slice r b.length s] 44 :: L) w' ∧ c.length ≤ j ∧ Dat jf G' i c ∧ Own i j ∧ e = .returned (slice i c.length j) := by
 refine ac (N := 5) Tryz.func36 z z (Nat.le_of_ble_eq_true z)<|?_
 unfold cP at H
 refine sr fun S E=>aj z<|nl<|E _ _ _<|sr fun T F=>mv z<|bK H fun U I H=>fU (vs := [slice none 0 0, func (.func 72) [].toArray [pointer (some ⟨d, 0, none⟩), pointer (some ⟨h, 0, none⟩)].toArray]) bo71 z z (lc I hI u v x y A B C D (t.mono gR))<|?_
 rintro _ V ⟨J, K, W, M, O, P, Q, R, rfl⟩
 refine ⟨_, rfl, ?_⟩
 refine aj z<|nl<|F _ _ _<|wr<|?_
 cases H
 exact ⟨.inr z, z, _, ⟨_, _, z, z, z⟩, J, K, _, M, O, P, Q, R, z⟩
theorem rU {a1 a10 b c a17 f g h i j k n o l F G L w} (H : fL a1 a10 b c a17 = some (l, F)) (hI : Hp G L w) (t : a1.Glyphs.length ≤ g) (u : Dat au G f a1.Glyphs) (v : a1.Kerns.length ≤ i) (x : Dat ay G h a1.Kerns) (y : a10.Keep.length ≤ k) (A : Dat Kd.str G j a10.Keep) (I : a17.length ≤ o) (J : Dat (Kd.int .i64) G n a17) (S : Gl G) :
    Calls Tryz.prog 16 [agg [slice f a1.Glyphs.length g, slice h a1.Kerns.length i].toArray, agg [int .i64 a10.Before, int .i64 a10.Behind, slice j a10.Keep.length k].toArray, string b, int .i64 c, slice n a17.length o].toArray w fun e w' => ∃ (q : Option Addr) (r : Nat) (G' : Gh), G ≤ G' ∧ Hp G' (tk (slice q l.length r) 4 46 :: L) w' ∧ l.length ≤ r ∧ Dat jf G' q l ∧ Own q r ∧ e = .returned (tuple [slice q l.length r, int .i64 F].toArray) := by
 refine ac (N := 38) Tryz.func16 z z (Nat.le_of_ble_eq_true z)<|?_
 unfold fL at H
 refine sr fun bb T=>io hI z z fun U bc V=>io V z z fun W bd B=>aj z<|aj z<|nl<|T _ _ _<|sr fun be X=>aj z<|nl<|X _ _ _<|sQ fun bf Y=>sr fun bg Z=>mv z<|?_
 refine q_len lg z<|bA z z<|mv z<|bK H fun K hC H=>js 4 B [(2, string b), (3, int .i64 c), (4, slice n a17.length o), (5, pointer (some ⟨U, 0, none⟩)), (6, pointer (some ⟨W, 0, none⟩)), (22, bool K)] ?_ fun _ bh d=>?_
 refine have H:=hC;dC ((a17.length : Int) = 0) (fun a=>?_) fun a=>?_
 refine yK a H fun H=>Sk 3 z z (bY a) z<|bR (bY a) z<|nl<|?_
 cases H
 exact je ⟨z, z, z, z, z, z, tv⟩ B
 refine nK a H fun H=>mv (hw:=gY z z z (bN a)) z<|mv (hw:=gY z z z (bN a)) z<|bK H fun bi aa H=>cv (hw:=gY z z z (bN a)) bo34 (lR aa B I J) z z fun bj ab=>b7 (bN a) z<|nl<|?_
 cases H
 exact je ⟨z, z, z, z, z, z, tv⟩ ab
 refine nl<|Z _ _ _<|dC (K = true) (fun m=>?_) fun m=>?_
 refine yK m H fun H=>wt (vY m)<|sr fun bk ad=>aj z<|aj z<|nl<|ad _ _ _<|wr<|have ae:=Hp.emp d;have af:=Hp.pick 3 [0] ae z;?_
 cases H
 exact ⟨.inr z, z, _, ⟨_, _, z, z, ⟨_, _, z, z, z⟩⟩, none, 0, _, gR, af, (show ([] : List az).length ≤ 0 from Nat.le_refl 0), (Dat.nil _ _ _), Own.nil, z⟩
 refine nK m H fun H=>wf (vN m)<|ws<|Y _ _ _<|sr fun bl C=>d9 d 1 fw z z z z<|d9 d 0 jT z z z z<|mv z<|mv z<|bK H fun ag D H=>?_
 rcases ag with ⟨bm, bn⟩ | ⟨bo, bp⟩ | ⟨ah, ai, bq, br⟩
 refine fU (vs := [agg [slice f a1.Glyphs.length g, slice h a1.Kerns.length i].toArray, agg [int .i64 a10.Before, int .i64 a10.Behind, slice j a10.Keep.length k].toArray, string b, int .i64 c]) zh z z (e7 D d t u v x y A)<|?_
 rintro _ bs ⟨bt, bu, bv, ak, al, bw, bx, bz, rfl⟩
 refine ⟨_, rfl, ?_⟩
 refine mv z<|cK z z<|cK z z<|aM al sE fun bB bC am=>fX am 0 m2 z z z z z z z fun bD an=>aj z<|nl<|C _ _ _<|sQ fun bE bF=>sr fun bG ao=>mv z<|dW z z<|nl<|ao _ _ _<|?_
 refine pU (lG (p := ¬ (1 : Int) = 0) (by decide)) ?_
 refine sr fun bH ap=>mv z<|aj z<|aj z<|nl<|ap _ _ _<|wr<|have aq:=Hp.emp an;have ar:=Hp.pick 5 [0] aq z;?_
 cases H
 exact ⟨.inr z, z, _, ⟨_, _, z, z, ⟨_, _, z, z, z⟩⟩, none, 0, _, ak, ar, (show ([] : List az).length ≤ 0 from Nat.le_refl 0), (Dat.nil _ _ _), Own.nil, z⟩
 refine fU (vs := [agg [slice f a1.Glyphs.length g, slice h a1.Kerns.length i].toArray, agg [int .i64 a10.Before, int .i64 a10.Behind, slice j a10.Keep.length k].toArray, string b, int .i64 c]) zh z z (e7 D d t u v x y A)<|?_
 rintro _ bI ⟨bJ, bL, bM, av, aw, bO, bP, bQ, rfl⟩
 refine ⟨_, rfl, ?_⟩
 refine mv z<|cK z z<|cK z z<|aM aw sE fun bS bT ax=>fX ax 0 m2 z z z z z z z fun bU aA=>aj z<|nl<|C _ _ _<|sQ fun bV bW=>sr fun bX aB=>mv z<|dW z z<|nl<|aB _ _ _<|?_
 refine pU (lG (p := ¬ (20 : Int) = 0) (by decide)) ?_
 refine sr fun bZ aC=>mv z<|aj z<|aj z<|nl<|aC _ _ _<|wr<|have aD:=Hp.emp aA;have aE:=Hp.pick 5 [0] aD z;?_
 cases H
 exact ⟨.inr z, z, _, ⟨_, _, z, z, ⟨_, _, z, z, z⟩⟩, none, 0, _, av, aE, (show ([] : List az).length ≤ 0 from Nat.le_refl 0), (Dat.nil _ _ _), Own.nil, z⟩
 refine fU (vs := [agg [slice f a1.Glyphs.length g, slice h a1.Kerns.length i].toArray, agg [int .i64 a10.Before, int .i64 a10.Behind, slice j a10.Keep.length k].toArray, string b, int .i64 c]) zh z z (e7 D d t u v x y A)<|?_
 rintro _ b0 ⟨aF, aG, aH, b1, b2, b3, b4, aI, b5, E, aJ, aK, aL, b6, M, O, P, Q, rfl⟩
 refine ⟨_, rfl, ?_⟩
 refine mv z<|cK z z<|cK z z<|aM aJ sE fun b8 b9 aN=>fX aN 0 m2 z z z z z z z fun ca R=>aj z<|nl<|C _ _ _<|sQ fun cb aO=>sr fun cc aP=>mv z<|dW z z<|nl<|aP _ _ _<|?_
 refine sB (vC (p := ¬ (0 : Int) = 0) (by decide)) ?_
 refine ws<|aO _ _ _<|sr fun cd aQ=>d9 R 0 m2 z z z z<|mv z<|have aR:=Hp.pick 6 [2, 3, 0, 1, 4, 5] R z;xr H fun ce cf cg aS H=>fU (vs := [agg [string ah, slice aF ai.length aG, func (.func 70) [].toArray [pointer (some ⟨aH, 0, none⟩), pointer (some ⟨aI, 0, none⟩)].toArray].toArray, slice n a17.length o]) bo37 z z (mV aS aR aK aL M O P Q I (Dat.mono E J))<|?_
 rintro _ ch ⟨aT, ci, cj, aU, ck, cl, cm, s, aV, aW, aX, aY, aZ, rfl⟩
 refine ⟨_, rfl, ?_⟩
 refine have a0:=Hp.pick 8 [0, 2, 3, 1, 4, 5, 6, 7] aV z;bK H fun cn a2 H=>fU (vs := [func (.func 72) [].toArray [pointer (some ⟨aT, 0, none⟩), pointer (some ⟨aU, 0, none⟩)].toArray]) bo36 z z (lP a2 a0 aW aX M (Dat.mono s O) P (Dat.mono s Q) aY aZ (S.mono (gT E s)))<|?_
 rintro _ co ⟨a3, a4, cp, a5, a6, a7, a8, a9, rfl⟩
 refine ⟨_, rfl, ?_⟩
 refine aj z<|aj z<|nl<|aQ _ _ _<|wr<|have ba:=Hp.pick 9 [0] a6 z;?_
 cases H
 exact ⟨.inr z, z, _, ⟨_, _, z, z, ⟨_, _, z, z, z⟩⟩, a3, a4, _, (gT (gT E s) a5), ba, a7, a8, a9, z⟩
theorem ei {a1 a2 b G L w} (H : cT a1 a2 = some b) (hI : Hp G L w) :
    Calls Tryz.prog 44 [int .i64 a1, int .i64 a2].toArray w fun e w' => Hp G L w' ∧ e = .returned (bool b) := by
 refine ac (N := 12) Tryz.func44 z z (Nat.le_of_ble_eq_true z)<|?_
 unfold cT at H
 refine sr fun h c=>aj z<|nl<|c _ _ _<|sr fun i d=>mv z<|eI z z<|mv z<|bK H fun f hC H=>js 4 hI [(11, bool f)] ?_ fun _ j g=>?_
 refine have H:=hC;dC (0 ≤ a1) (fun a=>?_) fun a=>?_
 refine yK a H fun H=>mv (hw:=gY z z z (bY a)) z<|mv (hw:=gY z z z (bY a)) z<|eI (hw:=gY z z z (bY a)) z z<|bR (bY a) z<|nl<|?_
 cases H
 exact je ⟨z, tv⟩ hI
 refine nK a H fun H=>Sk 3 z z (bN a) z<|b7 (bN a) z<|nl<|?_
 cases H
 exact je ⟨z, tv⟩ hI
 refine aj z<|nl<|d _ _ _<|wr<|?_
 cases H
 exact rt ⟨_, _, z, z, z⟩ g
theorem rB {a1 m G L w} (H : j8 a1 = some m) (hI : Hp G L w) :
    Calls Tryz.prog 83 [agg [int .i64 a1.Side, int .i64 a1.X, int .i64 a1.Y, int .i64 a1.W, int .i64 a1.H].toArray].toArray w fun e w' => Hp G L w' ∧ e = .returned (bool m) := by
 refine ac (N := 35) Tryz.func83 z z (Nat.le_of_ble_eq_true z)<|?_
 unfold j8 at H
 refine sr fun I r=>io hI z z fun h J g=>aj z<|nl<|r _ _ _<|sr fun K s=>fa sH z<|ld g 0 bv z z z<|dW z z<|mv z<|bK H fun n hC H=>js 4 g [(1, pointer (some ⟨h, 0, none⟩)), (10, bool n)] ?_ fun _ M i=>?_
 refine have H:=hC;dC (¬ a1.Side = 1) (fun f=>?_) fun f=>?_
 refine yK f H fun H=>fa (hw:=gY z z z (bY f)) sH z<|ld (hw:=gY z z z (bY f)) g 0 bv z z z<|dW (hw:=gY z z z (bY f)) z z<|bR (bY f) z<|nl<|?_
 cases H
 exact je ⟨z, z, tv⟩ g
 refine nK f H fun H=>Sk 3 z z (bN f) z<|b7 (bN f) z<|nl<|?_
 cases H
 exact je ⟨z, z, tv⟩ g
 refine mv z<|bK H fun o hC H=>js 5 i [(1, pointer (some ⟨h, 0, none⟩)), (16, bool o)] ?_ fun _ O j=>?_
 refine have H:=hC;dC (n = true) (fun a=>?_) fun a=>?_
 refine yK a H fun H=>Sk 4 z z (vY a) z<|bR (vY a) z<|nl<|?_
 cases H
 exact je ⟨z, z, tv⟩ i
 refine nK a H fun H=>fa (hw:=gY z z z (vN a)) sA z<|ld (hw:=gY z z z (vN a)) i 0 bv z z z<|bK H fun P t H=>cv (hw:=gY z z z (vN a)) xA (ei t i) z z fun Q u=>be (hw:=gY z z z (vN a)) z<|b7 (vN a) z<|nl<|?_
 cases H
 exact je ⟨z, z, tv⟩ u
 refine mv z<|bK H fun p hC H=>js 5 j [(1, pointer (some ⟨h, 0, none⟩)), (22, bool p)] ?_ fun _ R k=>?_
 refine have H:=hC;dC (o = true) (fun b=>?_) fun b=>?_
 refine yK b H fun H=>Sk 4 z z (vY b) z<|bR (vY b) z<|nl<|?_
 cases H
 exact je ⟨z, z, tv⟩ j
 refine nK b H fun H=>fa (hw:=gY z z z (vN b)) vH z<|ld (hw:=gY z z z (vN b)) j 0 bv z z z<|bK H fun S v H=>cv (hw:=gY z z z (vN b)) xA (ei v j) z z fun T x=>be (hw:=gY z z z (vN b)) z<|b7 (vN b) z<|nl<|?_
 cases H
 exact je ⟨z, z, tv⟩ x
 refine mv z<|bK H fun q hC H=>js 5 k [(1, pointer (some ⟨h, 0, none⟩)), (28, bool q)] ?_ fun _ U l=>?_
 refine have H:=hC;dC (p = true) (fun c=>?_) fun c=>?_
 refine yK c H fun H=>Sk 4 z z (vY c) z<|bR (vY c) z<|nl<|?_
 cases H
 exact je ⟨z, z, tv⟩ k
 refine nK c H fun H=>fa (hw:=gY z z z (vN c)) nF z<|ld (hw:=gY z z z (vN c)) k 0 bv z z z<|bK H fun V y H=>cv (hw:=gY z z z (vN c)) xA (ei y k) z z fun Z A=>be (hw:=gY z z z (vN c)) z<|b7 (vN c) z<|nl<|?_
 cases H
 exact je ⟨z, z, tv⟩ A
 refine mv z<|bK H fun B hC H=>js 5 l [(34, bool B)] ?_ fun _ aa C=>?_
 refine have H:=hC;dC (q = true) (fun d=>?_) fun d=>?_
 refine yK d H fun H=>Sk 4 z z (vY d) z<|bR (vY d) z<|nl<|?_
 cases H
 exact je ⟨z, tv⟩ l
 refine nK d H fun H=>fa (hw:=gY z z z (vN d)) nB z<|ld (hw:=gY z z z (vN d)) l 0 bv z z z<|bK H fun ab D H=>cv (hw:=gY z z z (vN d)) xA (ei D l) z z fun ad E=>be (hw:=gY z z z (vN d)) z<|b7 (vN d) z<|nl<|?_
 cases H
 exact je ⟨z, tv⟩ E
 refine aj z<|nl<|s _ _ _<|wr<|have F:=Hp.pick 1 [] C z;?_
 cases H
 exact rt ⟨_, _, z, z, z⟩ F
theorem kS {a1 f g k G L w} (H : ct a1 = some k) (hI : Hp G L w) (T : a1.length ≤ g) (s : Dat bm G f a1) :
    Calls Tryz.prog 118 [slice f a1.length g, func (.func 83) [].toArray [].toArray].toArray w fun e w' => Hp G L w' ∧ e = .returned (int .i64 k) := by
 refine ac (N := 19) Tryz.func118 z z (Nat.le_of_ble_eq_true z)<|?_
 unfold ct at H
 refine sr fun U t=>aj z<|nl<|t _ _ _<|sQ fun V u=>sr fun Z x=>mv z<|q_len vO z<|mv z<|nl<|x _ _ _<|wb<|bK H fun h hC H=>aq (Q := fun e r ds w => match (generalizing := false) h with | (Sum.inl l) => e = .ret ∧ ds = [] ∧ Has [(4, int .i64 l)] r ∧ Hp G (L) w ∧ True | (Sum.inr _) => e = .exit 0 ∧ ds = [] ∧ Has [] r ∧ Hp G (L) w ∧ True) ?_ ?_
 refine aB fun I q=>?_
 refine aW.partial_correctness a1 (fun a o => ∀ (r : Rg) (w : World), Has [(0, slice f a1.length g), (1, func (.func 83) [].toArray [].toArray), (7, int .i64 (a1.length : Int)), (8, int .i64 a)] r → Hp G (L) w → o = h → I r [] w) ?_ 0 _ hC _ _ ⟨rfl, rfl, rfl, rfl, tv⟩ hI rfl
 intro _ ih a o H r aa b i ho
 rw [ho] at H; clear ho
 rw [b.eq]; clear b
 refine q _ _ _<|sr fun ab y=>aN z z<|nl<|y _ _ _<|sQ fun ad A=>dC (a < (a1.length : Int)) (fun c=>?_) fun c=>?_
 refine yK c H fun H=>wt (bY c)<|ws<|A _ _ _<|sQ fun af B=>wb<|sr fun ah C=>mv z<|aj z<|nl<|C _ _ _<|sr fun ai D=>mv z<|mv z<|?_
 refine mv z<|iK H fun⟨m, n⟩H=>?_
 obtain ⟨ak, al, E, F, am, J⟩ := Dat.get s ag (a) m n
 obtain ⟨rfl⟩ := bF F
 refine bP oh z E z m n<|ki i vc z (cs := [int .i64 ((a1.getD (Int.toNat a) ag).Side), int .i64 ((a1.getD (Int.toNat a) ag).X), int .i64 ((a1.getD (Int.toNat a) ag).Y), int .i64 ((a1.getD (Int.toNat a) ag).W), int .i64 ((a1.getD (Int.toNat a) ag).H)]) z (fun j v hv => gR.cel _ _ (J j v hv))<|bK H fun K M H=>cv bo83 (rB (a1 := (a1.getD (Int.toNat a) ag)) M i) z z fun an p=>nl<|D _ _ _<|dC (K = true) (fun d=>?_) fun d=>?_
 refine yK d H fun H=>wt (vY d)<|sr fun ao O=>mv z<|aj z<|nl<|O _ _ _<|wr<|?_
 cases H
 exact ⟨z, z, ⟨z, tv⟩, p, tv⟩
 exact nK d H fun H=>wf (vN d)<|ws<|B _ _ _<|ae<|ba z z<|mv z<|nl<|ih _ _ H _ _ ⟨z, z, z, z, tv⟩ p z
 refine nK c H fun H=>wf (bN c)<|wx<|?_
 cases H
 exact ⟨z, z, trivial, i, tv⟩
 rcases h with l | _
 rintro e r ds ap ⟨rfl, rfl, b, P, _⟩
 rw [b.eq]; clear b
 cases H
 exact rt ⟨_, _, z, z, z⟩ P
 rintro e r ds ar ⟨rfl, rfl, b, R, _⟩
 rw [b.eq]; clear b
 refine u _ _ _<|sr fun au S=>aj z<|nl<|S _ _ _<|wr<|?_
 cases H
 exact rt ⟨_, _, z, z, z⟩ R
theorem j7 {a1 a b c G L w} (H : bZ a1 = some c) (hI : Hp G L w) (d : a1.length ≤ b) (f : Dat bm G a a1) :
    Calls Tryz.prog 82 [slice a a1.length b, func (.func 83) [].toArray [].toArray].toArray w fun e w' => Hp G L w' ∧ e = .returned (bool c) := by
 refine ac (N := 9) Tryz.func82 z z (Nat.le_of_ble_eq_true z)<|?_
 unfold bZ at H
 refine sr fun k g=>aj z<|nl<|g _ _ _<|sr fun l h=>mv z<|mv z<|bK H fun m i H=>cv EA (kS i hI d f) z z fun n j=>gM z z<|aj z<|nl<|h _ _ _<|wr<|?_
 cases H
 exact rt ⟨_, _, z, z, z⟩ j
theorem oc {a1 a6 c d h G L w} (H : iC a1 a6 = some h) (hI : Hp G L w) (j : a1.length ≤ d) (k : Dat bm G c a1) :
    Calls Tryz.prog 43 [slice c a1.length d, int .i64 a6].toArray w fun e w' => Hp G L w' ∧ e = .returned (bool h) := by
 refine ac (N := 17) Tryz.func43 z z (Nat.le_of_ble_eq_true z)<|?_
 unfold iC at H
 refine sr fun t l=>aj z<|nl<|l _ _ _<|sr fun u m=>mv z<|bK H fun n o H=>cv xA (ei o hI) z z fun v f=>mv z<|bK H fun i hC H=>js 4 f [(0, slice c a1.length d), (11, bool i)] ?_ fun _ x g=>?_
 refine have H:=hC;dC (n = true) (fun a=>?_) fun a=>?_
 refine yK a H fun H=>mv (hw:=gY z z z (vY a)) z<|q_len (hw:=gY z z z (vY a)) vO z<|eI (hw:=gY z z z (vY a)) z z<|bR (vY a) z<|nl<|?_
 cases H
 exact je ⟨z, z, tv⟩ f
 refine nK a H fun H=>Sk 3 z z (vN a) z<|b7 (vN a) z<|nl<|?_
 cases H
 exact je ⟨z, z, tv⟩ f
 refine mv z<|bK H fun p hC H=>js 4 g [(16, bool p)] ?_ fun _ y q=>?_
 refine have H:=hC;dC (i = true) (fun b=>?_) fun b=>?_
 refine yK b H fun H=>mv (hw:=gY z z z (vY b)) z<|bK H fun A r H=>cv (hw:=gY z z z (vY b)) bo82 (j7 r g j k) z z fun B s=>be (hw:=gY z z z (vY b)) z<|bR (vY b) z<|nl<|?_
 cases H
 exact je ⟨z, tv⟩ s
 refine nK b H fun H=>Sk 3 z z (vN b) z<|b7 (vN b) z<|nl<|?_
 cases H
 exact je ⟨z, tv⟩ g
 refine aj z<|nl<|m _ _ _<|wr<|?_
 cases H
 exact rt ⟨_, _, z, z, z⟩ q
theorem oM {a1 a10 b r a17 s d f h i j k l E G L w} (H : eB a1 a10 b r a17 s = some (l, E)) (hI : Hp G L w) (t : a1.Glyphs.length ≤ f) (u : Dat au G d a1.Glyphs) (v : a1.Kerns.length ≤ i) (x : Dat ay G h a1.Kerns) (y : a10.Keep.length ≤ k) (A : Dat Kd.str G j a10.Keep) (R : Gl G) :
    Calls Tryz.prog 85 [agg [slice d a1.Glyphs.length f, slice h a1.Kerns.length i].toArray, agg [int .i64 a10.Before, int .i64 a10.Behind, slice j a10.Keep.length k].toArray, string b, int .i64 r, int .i64 a17, int .i64 s].toArray w fun e w' => Hp G L w' ∧ e = .returned (tuple [agg [int .i64 l.From, int .i64 l.Until, int .i64 l.Width, bool l.Hyphen].toArray, int .i64 E].toArray) := by
 refine ac (N := 44) Tryz.func85 z z (Nat.le_of_ble_eq_true z)<|?_
 unfold eB at H
 refine sr fun aV S=>io hI z z fun T aW U=>io U z z fun V aX W=>aM W mO fun m aY X=>aj z<|nl<|S _ _ _<|sQ fun aZ Y=>sr fun a0 Z=>mv z<|mv z<|cX fA z<|dl z z<|bK H fun aa ab H=>?_
 refine cv wA (cE ab X) z z fun a2 B=>be z<|mv z<|bK H fun F hC H=>js 4 B [(2, string b), (3, int .i64 r), (4, int .i64 a17), (5, int .i64 s), (6, pointer (some ⟨T, 0, none⟩)), (7, pointer (some ⟨V, 0, none⟩)), (12, pointer (some ⟨m, 0, none⟩)), (26, bool F)] ?_ fun _ a3 c=>?_
 refine have H:=hC;dC ((!aa) = true) (fun a=>?_) fun a=>?_
 refine yK a H fun H=>Sk 3 z z (vY a) z<|bR (vY a) z<|nl<|?_
 cases H
 exact je ⟨z, z, z, z, z, z, z, z, tv⟩ B
 refine nK a H fun H=>mv (hw:=gY z z z (vN a)) z<|bK H fun a4 ad H=>cv (hw:=gY z z z (vN a)) wA (cE ad B) z z fun a5 ae=>be (hw:=gY z z z (vN a)) z<|b7 (vN a) z<|nl<|?_
 cases H
 exact je ⟨z, z, z, z, z, z, z, z, tv⟩ ae
 refine nl<|Z _ _ _<|dC (F = true) (fun n=>?_) fun n=>?_
 refine yK n H fun H=>wt (vY n)<|sr fun a6 af=>bO (vs := []) (cs := [int .i64 0, int .i64 0, int .i64 0, bool false]) mO xR z z<|fX c 0 gy z z z z z z z fun a7 I=>aj z<|nl<|af _ _ _<|wr<|have ag:=bW (P := Tryz.prog) I 0 (cs := [int .i64 0, int .i64 0, int .i64 0, bool false]) (g := m) (o := 0) gy z z z;have ah:=Hp.pick 3 [] I z;?_
 cases H
 exact rt ⟨_, _, _, z, z, ag, ⟨_, _, z, z, z⟩⟩ ah
 refine nK n H fun H=>wf (vN n)<|ws<|Y _ _ _<|sr fun a8 C=>d9 c 2 fw z z z z<|d9 c 1 jT z z z z<|mv z<|mv z<|bK H fun ai D H=>?_
 rcases ai with ⟨a9, ba⟩ | ⟨bb, bc⟩ | ⟨bd, bf, bg, bh⟩
 refine fU (vs := [agg [slice d a1.Glyphs.length f, slice h a1.Kerns.length i].toArray, agg [int .i64 a10.Before, int .i64 a10.Behind, slice j a10.Keep.length k].toArray, string b, int .i64 a17]) zh z z (e7 D c t u v x y A)<|?_
 rintro _ bi ⟨bj, bk, bl, ak, al, bm, bn, bo, rfl⟩
 refine ⟨_, rfl, ?_⟩
 refine mv z<|cK z z<|cK z z<|aM al sE fun bp bq am=>fX am 0 m2 z z z z z z z fun br an=>aj z<|nl<|C _ _ _<|sQ fun bs bt=>sr fun bu ao=>mv z<|dW z z<|nl<|ao _ _ _<|?_
 refine pU (lG (p := ¬ (1 : Int) = 0) (by decide)) ?_
 refine sr fun bv ap=>bO (vs := []) (cs := [int .i64 0, int .i64 0, int .i64 0, bool false]) mO xR z z<|mv z<|fX an 2 gy z z z z z z z fun bw J=>aj z<|nl<|ap _ _ _<|wr<|have aq:=bW (P := Tryz.prog) J 2 (cs := [int .i64 0, int .i64 0, int .i64 0, bool false]) (g := m) (o := 0) gy z z z;have ar:=Hp.pick 5 [] J z;?_
 cases H
 exact rt ⟨_, _, _, z, z, aq, ⟨_, _, z, z, z⟩⟩ (Hp.low ak ar)
 refine fU (vs := [agg [slice d a1.Glyphs.length f, slice h a1.Kerns.length i].toArray, agg [int .i64 a10.Before, int .i64 a10.Behind, slice j a10.Keep.length k].toArray, string b, int .i64 a17]) zh z z (e7 D c t u v x y A)<|?_
 rintro _ bx ⟨bz, bA, bB, av, aw, bC, bD, bE, rfl⟩
 refine ⟨_, rfl, ?_⟩
 refine mv z<|cK z z<|cK z z<|aM aw sE fun bF bG ax=>fX ax 0 m2 z z z z z z z fun bH az=>aj z<|nl<|C _ _ _<|sQ fun bI bJ=>sr fun bL aA=>mv z<|dW z z<|nl<|aA _ _ _<|?_
 refine pU (lG (p := ¬ (20 : Int) = 0) (by decide)) ?_
 refine sr fun bM aB=>bO (vs := []) (cs := [int .i64 0, int .i64 0, int .i64 0, bool false]) mO xR z z<|mv z<|fX az 2 gy z z z z z z z fun bN K=>aj z<|nl<|aB _ _ _<|wr<|have aC:=bW (P := Tryz.prog) K 2 (cs := [int .i64 0, int .i64 0, int .i64 0, bool false]) (g := m) (o := 0) gy z z z;have aD:=Hp.pick 5 [] K z;?_
 cases H
 exact rt ⟨_, _, _, z, z, aC, ⟨_, _, z, z, z⟩⟩ (Hp.low av aD)
 refine fU (vs := [agg [slice d a1.Glyphs.length f, slice h a1.Kerns.length i].toArray, agg [int .i64 a10.Before, int .i64 a10.Behind, slice j a10.Keep.length k].toArray, string b, int .i64 a17]) zh z z (e7 D c t u v x y A)<|?_
 rintro _ bP ⟨bQ, bS, bT, bU, bV, bX, bY, bZ, b0, M, aE, aF, aG, b1, aH, aI, aJ, aK, rfl⟩
 refine ⟨_, rfl, ?_⟩
 refine mv z<|cK z z<|cK z z<|aM aE sE fun b2 b3 aL=>fX aL 0 m2 z z z z z z z fun b4 O=>aj z<|nl<|C _ _ _<|sQ fun b5 aN=>sr fun b6 aO=>mv z<|dW z z<|nl<|aO _ _ _<|?_
 refine sB (vC (p := ¬ (0 : Int) = 0) (by decide)) ?_
 refine ws<|aN _ _ _<|sr fun b8 aP=>d9 O 0 m2 z z z z<|mv z<|mv z<|have aQ:=Hp.pick 7 [2, 3, 0, 1, 4, 5, 6] O z;bK H fun q aR H=>cv DC (gQ aR aQ aF aG aH aI aJ aK (R.mono M)) z z fun b9 aS=>fX aS 4 gy z z z z z z z fun ca Q=>aj z<|nl<|aP _ _ _<|wr<|?_
 refine have aT:=bW (P := Tryz.prog) Q 4 (cs := [int .i64 q.From, int .i64 q.Until, int .i64 q.Width, bool q.Hyphen]) (g := m) (o := 0) gy z z z;have aU:=Hp.pick 7 [] Q z;?_
 cases H
 exact rt ⟨_, _, _, z, z, aT, ⟨_, _, z, z, z⟩⟩ (Hp.low M aU)
theorem o6 {a1 p D E F I J K Q R S G L w} (H : dQ a1 p = some S) (hI : Hp G L w) (T : a1.f.Glyphs.length ≤ E) (U : Dat au G D a1.f.Glyphs) (V : a1.f.Kerns.length ≤ I) (W : Dat ay G F a1.f.Kerns) (X : a1.b.Keep.length ≤ K) (Y : Dat Kd.str G J a1.b.Keep) (ak : a1.l.length ≤ R) (al : Dat bm G Q a1.l) (P : Gl G) :
    Calls Tryz.prog 50 [agg [slice D a1.f.Glyphs.length E, slice F a1.f.Kerns.length I, int .i64 a1.b.Before, int .i64 a1.b.Behind, slice J a1.b.Keep.length K, string a1.s, int .i64 a1.scale, int .i64 a1.line, int .i64 a1.align, int .i64 a1.dir, int .i64 a1.width, slice Q a1.l.length R].toArray, int .i64 p].toArray w fun e w' => Hp G L w' ∧ e = .returned (int .i64 S) := by
 refine ac (N := 89) Tryz.func50 z z (Nat.le_of_ble_eq_true z)<|?_
 unfold dQ at H
 refine sr fun aY am=>io hI z z fun k aZ Z=>aj z<|nl<|am _ _ _<|sQ fun a0 an=>sr fun a2 ao=>fa tI z<|ld Z 0 qU z z z<|bK H fun ap aq H=>cv zP (ij aq Z) z z fun a3 r=>be z<|mv z<|bK H fun aa hC H=>?_
 refine js 7 r [(1, int .i64 p), (2, pointer (some ⟨k, 0, none⟩)), (20, bool aa)] ?_ fun _ a4 y=>?_
 refine have H:=hC;dC ((!ap) = true) (fun c=>?_) fun c=>?_
 refine yK c H fun H=>Sk 6 z z (vY c) z<|bR (vY c) z<|nl<|?_
 cases H
 exact je ⟨z, z, z, tv⟩ r
 refine nK c H fun H=>fa (hw:=gY z z z (vN c)) yj z<|ld (hw:=gY z z z (vN c)) r 0 Dw z z z<|fa (hw:=gY z z z (vN c)) vy z<|ld (hw:=gY z z z (vN c)) r 0 bv z z z<|bK H fun a5 ar H=>cv (hw:=gY z z z (vN c)) EF (oc ar r ak al) z z fun a6 av=>be (hw:=gY z z z (vN c)) z<|b7 (vN c) z<|nl<|?_
 cases H
 exact je ⟨z, z, z, tv⟩ av
 refine mv z<|bK H fun ab hC H=>js 4 y [(1, int .i64 p), (2, pointer (some ⟨k, 0, none⟩)), (25, bool ab)] ?_ fun _ a7 A=>?_
 refine have H:=hC;dC (aa = true) (fun d=>?_) fun d=>?_
 refine yK d H fun H=>Sk 3 z z (vY d) z<|bR (vY d) z<|nl<|?_
 cases H
 exact je ⟨z, z, z, tv⟩ y
 refine nK d H fun H=>fa (hw:=gY z z z (vN d)) tT z<|ld (hw:=gY z z z (vN d)) y 0 bv z z z<|aN (hw:=gY z z z (vN d)) z z<|b7 (vN d) z<|nl<|?_
 cases H
 exact je ⟨z, z, z, tv⟩ y
 refine mv z<|bK H fun ad hC H=>js 4 A [(1, int .i64 p), (2, pointer (some ⟨k, 0, none⟩)), (30, bool ad)] ?_ fun _ a8 M=>?_
 refine have H:=hC;dC (ab = true) (fun g=>?_) fun g=>?_
 refine yK g H fun H=>Sk 3 z z (vY g) z<|bR (vY g) z<|nl<|?_
 cases H
 exact je ⟨z, z, z, tv⟩ A
 refine nK g H fun H=>fa (hw:=gY z z z (vN g)) tT z<|ld (hw:=gY z z z (vN g)) A 0 bv z z z<|cc (hw:=gY z z z (vN g)) z z<|b7 (vN g) z<|nl<|?_
 cases H
 exact je ⟨z, z, z, tv⟩ A
 refine mv z<|bK H fun ae hC H=>js 3 M [(1, int .i64 p), (2, pointer (some ⟨k, 0, none⟩)), (34, bool ae)] ?_ fun _ a9 O=>?_
 refine have H:=hC;dC (ad = true) (fun m=>?_) fun m=>?_
 refine yK m H fun H=>Sk 2 z z (vY m) z<|bR (vY m) z<|nl<|?_
 cases H
 exact je ⟨z, z, z, tv⟩ M
 refine nK m H fun H=>mv (hw:=gY z z z (vN m)) z<|aN (hw:=gY z z z (vN m)) z z<|b7 (vN m) z<|nl<|?_
 cases H
 exact je ⟨z, z, z, tv⟩ M
 refine mv z<|bK H fun af hC H=>js 3 O [(2, pointer (some ⟨k, 0, none⟩)), (38, bool af)] ?_ fun _ ba q=>?_
 refine have H:=hC;dC (ae = true) (fun o=>?_) fun o=>?_
 refine yK o H fun H=>Sk 2 z z (vY o) z<|bR (vY o) z<|nl<|?_
 cases H
 exact je ⟨z, z, tv⟩ O
 refine nK o H fun H=>mv (hw:=gY z z z (vN o)) z<|cc (hw:=gY z z z (vN o)) z z<|b7 (vN o) z<|nl<|?_
 cases H
 exact je ⟨z, z, tv⟩ O
 refine nl<|ao _ _ _<|dC (af = true) (fun t=>?_) fun t=>?_
 refine yK t H fun H=>wt (vY t)<|sr fun bb aw=>aj z<|nl<|aw _ _ _<|wr<|have ax:=Hp.pick 1 [] q z;?_
 cases H
 exact rt ⟨_, _, z, z, z⟩ ax
 refine nK t H fun H=>wf (vN t)<|ws<|an _ _ _<|sQ fun bc az=>sr fun bd aA=>fa xE z<|ld q 0 bv z z z<|aN z z<|mv z<|bK H fun ag hC H=>js 4 q [(2, pointer (some ⟨k, 0, none⟩)), (46, bool ag)] ?_ fun _ bf B=>?_
 refine have H:=hC;dC (a1.align < 0) (fun h=>?_) fun h=>?_
 refine yK h H fun H=>Sk 3 z z (bY h) z<|bR (bY h) z<|nl<|?_
 cases H
 exact je ⟨z, z, tv⟩ q
 refine nK h H fun H=>fa (hw:=gY z z z (bN h)) xE z<|ld (hw:=gY z z z (bN h)) q 0 bv z z z<|cc (hw:=gY z z z (bN h)) z z<|b7 (bN h) z<|nl<|?_
 cases H
 exact je ⟨z, z, tv⟩ q
 refine mv z<|bK H fun ah hC H=>js 4 B [(2, pointer (some ⟨k, 0, none⟩)), (51, bool ah)] ?_ fun _ bg C=>?_
 refine have H:=hC;dC (ag = true) (fun i=>?_) fun i=>?_
 refine yK i H fun H=>Sk 3 z z (vY i) z<|bR (vY i) z<|nl<|?_
 cases H
 exact je ⟨z, z, tv⟩ B
 refine nK i H fun H=>fa (hw:=gY z z z (vN i)) x5 z<|ld (hw:=gY z z z (vN i)) B 0 bv z z z<|aN (hw:=gY z z z (vN i)) z z<|b7 (vN i) z<|nl<|?_
 cases H
 exact je ⟨z, z, tv⟩ B
 refine mv z<|bK H fun ai hC H=>js 4 C [(2, pointer (some ⟨k, 0, none⟩)), (56, bool ai)] ?_ fun _ bh a=>?_
 refine have H:=hC;dC (ah = true) (fun j=>?_) fun j=>?_
 refine yK j H fun H=>Sk 3 z z (vY j) z<|bR (vY j) z<|nl<|?_
 cases H
 exact je ⟨z, z, tv⟩ C
 refine nK j H fun H=>fa (hw:=gY z z z (vN j)) x5 z<|ld (hw:=gY z z z (vN j)) C 0 bv z z z<|cc (hw:=gY z z z (vN j)) z z<|b7 (vN j) z<|nl<|?_
 cases H
 exact je ⟨z, z, tv⟩ C
 refine nl<|aA _ _ _<|dC (ai = true) (fun u=>?_) fun u=>?_
 refine yK u H fun H=>wt (vY u)<|sr fun bi aB=>aj z<|nl<|aB _ _ _<|wr<|have aC:=Hp.pick 1 [] a z;?_
 cases H
 exact rt ⟨_, _, z, z, z⟩ aC
 refine nK u H fun H=>wf (vN u)<|ws<|az _ _ _<|sQ fun bj aD=>sr fun bk aE=>fa tI z<|ld a 0 qU z z z<|uD z z<|nl<|aE _ _ _<|dC (a1.s = (⟨#[]⟩ : ByteArray)) (fun v=>?_) fun v=>?_
 refine yK v H fun H=>wt (bY v)<|sr fun bl aF=>fa vM z<|d9 a 0 fw z z z z<|fa yc z<|d9 a 0 jT z z z z<|fa vg z<|ld a 0 bv z z z<|fa vy z<|ld a 0 bv z z z<|?_
 refine mm a (vs := [(0, int .i64 a1.width)]) (cs := [int .i64 a1.width]) dI vI rfl (by decide) rfl rfl (fun aG bn aH => ?_)
 obtain ⟨bo, x, aI, aJ⟩ := Hp.publish (xs := ([a1.width] : List Int)) (n := 1) (Kd.int .i64) aH ⟨[int .i64 a1.width], _, rfl, rfl, rfl⟩ rfl
 refine iJ H fun bp bq aK H=>fU (vs := [agg [slice D a1.f.Glyphs.length E, slice F a1.f.Kerns.length I].toArray, agg [int .i64 a1.b.Before, int .i64 a1.b.Behind, slice J a1.b.Keep.length K].toArray, string (⟨#[]⟩ : ByteArray), int .i64 a1.scale, slice (some ⟨aG, 0, none⟩) ([a1.width] : List Int).length 1]) bo16 z z (rU (a17 := ([a1.width] : List Int)) aK aI T (Dat.mono x U) V (Dat.mono x W) X (Dat.mono x Y) (show ([a1.width] : List Int).length ≤ 1 from Nat.le_of_ble_eq_true z) aJ (P.mono x))<|?_
 rintro _ br ⟨bs, bt, bu, aL, aO, bw, bx, bz, rfl⟩
 refine ⟨_, rfl, ?_⟩
 refine mv z<|cK z z<|cK z z<|aj z<|aj z<|nl<|aF _ _ _<|sr fun bA aP=>mv z<|aj z<|nl<|aP _ _ _<|wr<|have aQ:=Hp.pick 3 [] aO z;?_
 cases H
 exact rt ⟨_, _, z, z, z⟩ (Hp.low (gT x aL) aQ)
 refine nK v H fun H=>wf (bN v)<|ws<|aD _ _ _<|sr fun bB aR=>fa vM z<|d9 a 0 fw z z z z<|fa yc z<|d9 a 0 jT z z z z<|fa tI z<|ld a 0 qU z z z<|fa vg z<|ld a 0 bv z z z<|fa vy z<|?_
 refine ld a 0 bv z z z<|iJ H fun bC bD aS H=>cv DV (oM aS a T U V W X Y (P.mono gR)) z z fun bE aT=>mv z<|cK z z<|cK z z<|aM aT mO fun bF bG aU=>fX aU 0 gy z z z z z z z fun bH aV=>aj z<|nl<|aR _ _ _<|sr fun bI aW=>mv z<|aj z<|?_
 refine nl<|aW _ _ _<|wr<|have aX:=Hp.pick 2 [] aV z;?_
 cases H
 exact rt ⟨_, _, z, z, z⟩ aX
theorem oB {a1 n c d g h i j k m a o G L w} (H : gh a1 n = some (a, o)) (hI : Hp G L w) (E : a1.f.Glyphs.length ≤ d) (F : Dat au G c a1.f.Glyphs) (I : a1.f.Kerns.length ≤ h) (J : Dat ay G g a1.f.Kerns) (K : a1.b.Keep.length ≤ j) (M : Dat Kd.str G i a1.b.Keep) (O : a1.l.length ≤ m) (P : Dat bm G k a1.l) :
    Calls Tryz.prog 86 [agg [slice c a1.f.Glyphs.length d, slice g a1.f.Kerns.length h, int .i64 a1.b.Before, int .i64 a1.b.Behind, slice i a1.b.Keep.length j, string a1.s, int .i64 a1.scale, int .i64 a1.line, int .i64 a1.align, int .i64 a1.dir, int .i64 a1.width, slice k a1.l.length m].toArray, int .i64 n].toArray w fun e w' => ∃ (p : Nat) (q : Option Addr) (r : Nat) (t : Option Addr) (u : Nat) (v : Option Addr) (x : Nat) (y : Option Addr) (A : Nat) (B : Nat) (G' : Gh), G ≤ G' ∧ Hp G' (bx p [slice q a.f.Glyphs.length r, slice t a.f.Kerns.length u, int .i64 a.b.Before, int .i64 a.b.Behind, slice v a.b.Keep.length x, string a.s, int .i64 a.scale, int .i64 a.line, int .i64 a.align, int .i64 a.dir, int .i64 a.width, slice y a.l.length A] 97 :: bx B [int .i64 o] 3 :: L) w' ∧ a.f.Glyphs.length ≤ r ∧ Dat au G' q a.f.Glyphs ∧ a.f.Kerns.length ≤ u ∧ Dat ay G' t a.f.Kerns ∧ a.b.Keep.length ≤ x ∧ Dat Kd.str G' v a.b.Keep ∧ a.l.length ≤ A ∧ Dat bm G' y a.l ∧ e = .returned (func (.func 120) [].toArray [pointer (some ⟨p, 0, none⟩), pointer (some ⟨B, 0, none⟩)].toArray) := by
 refine ac (N := 6) Tryz.func86 z z (Nat.le_of_ble_eq_true z)<|?_
 unfold gh at H
 refine sr fun V Q=>io hI z z fun C W R=>io R z z fun D X S=>aj z<|nl<|Q _ _ _<|sr fun Y T=>qG (vs := []) (us := [pointer (some ⟨C, 0, none⟩), pointer (some ⟨D, 0, none⟩)]) z z<|aj z<|nl<|T _ _ _<|wr<|have U:=Hp.pick 2 [1, 0] S z;?_
 cases H
 exact ⟨.inr z, z, _, ⟨_, _, z, z, z⟩, C, c, d, g, h, i, j, k, m, D, _, gR, U, E, F, I, J, K, M, O, P, z⟩
theorem oZ {a1 n c d g h i j k m o a G L w} (H : gL a1 n = some (o, a)) (hI : Hp G L w) (E : a1.f.Glyphs.length ≤ d) (F : Dat au G c a1.f.Glyphs) (I : a1.f.Kerns.length ≤ h) (J : Dat ay G g a1.f.Kerns) (K : a1.b.Keep.length ≤ j) (M : Dat Kd.str G i a1.b.Keep) (O : a1.l.length ≤ m) (P : Dat bm G k a1.l) :
    Calls Tryz.prog 121 [agg [slice c a1.f.Glyphs.length d, slice g a1.f.Kerns.length h, int .i64 a1.b.Before, int .i64 a1.b.Behind, slice i a1.b.Keep.length j, string a1.s, int .i64 a1.scale, int .i64 a1.line, int .i64 a1.align, int .i64 a1.dir, int .i64 a1.width, slice k a1.l.length m].toArray, int .i64 n].toArray w fun e w' => ∃ (p : Nat) (q : Nat) (r : Option Addr) (t : Nat) (u : Option Addr) (v : Nat) (x : Option Addr) (y : Nat) (A : Option Addr) (B : Nat) (G' : Gh), G ≤ G' ∧ Hp G' (bx p [int .i64 o] 3 :: bx q [slice r a.f.Glyphs.length t, slice u a.f.Kerns.length v, int .i64 a.b.Before, int .i64 a.b.Behind, slice x a.b.Keep.length y, string a.s, int .i64 a.scale, int .i64 a.line, int .i64 a.align, int .i64 a.dir, int .i64 a.width, slice A a.l.length B] 97 :: L) w' ∧ a.f.Glyphs.length ≤ t ∧ Dat au G' r a.f.Glyphs ∧ a.f.Kerns.length ≤ v ∧ Dat ay G' u a.f.Kerns ∧ a.b.Keep.length ≤ y ∧ Dat Kd.str G' x a.b.Keep ∧ a.l.length ≤ B ∧ Dat bm G' A a.l ∧ e = .returned (func (.func 152) [].toArray [pointer (some ⟨p, 0, none⟩), pointer (some ⟨q, 0, none⟩)].toArray) := by
 refine ac (N := 6) Tryz.func121 z z (Nat.le_of_ble_eq_true z)<|?_
 unfold gL at H
 refine sr fun U Q=>io hI z z fun C V R=>io R z z fun D W S=>aj z<|nl<|Q _ _ _<|sr fun X T=>qG (vs := []) (us := [pointer (some ⟨D, 0, none⟩), pointer (some ⟨C, 0, none⟩)]) z z<|aj z<|nl<|T _ _ _<|wr<|?_
 cases H
 exact ⟨.inr z, z, _, ⟨_, _, z, z, z⟩, D, C, c, d, g, h, i, j, k, m, _, gR, S, E, F, I, J, K, M, O, P, z⟩
theorem mQ {a1 a4 a i j k m n o p q r t u G L w} (H : eJ a1 a4 a = some u) (hI : Hp G (bx i [int .i64 a4] 3 :: bx j [slice k a.f.Glyphs.length m, slice n a.f.Kerns.length o, int .i64 a.b.Before, int .i64 a.b.Behind, slice p a.b.Keep.length q, string a.s, int .i64 a.scale, int .i64 a.line, int .i64 a.align, int .i64 a.dir, int .i64 a.width, slice r a.l.length t] 97 :: L) w) (E : a.f.Glyphs.length ≤ m) (F : Dat au G k a.f.Glyphs) (I : a.f.Kerns.length ≤ o) (J : Dat ay G n a.f.Kerns) (K : a.b.Keep.length ≤ q) (M : Dat Kd.str G p a.b.Keep) (O : a.l.length ≤ t) (P : Dat bm G r a.l) :
    Calls Tryz.prog 152 [agg [int .i64 a1.Side, int .i64 a1.X, int .i64 a1.Y, int .i64 a1.W, int .i64 a1.H].toArray, pointer (some ⟨i, 0, none⟩), pointer (some ⟨j, 0, none⟩)].toArray w fun e w' => Hp G (bx i [int .i64 a4] 3 :: bx j [slice k a.f.Glyphs.length m, slice n a.f.Kerns.length o, int .i64 a.b.Before, int .i64 a.b.Behind, slice p a.b.Keep.length q, string a.s, int .i64 a.scale, int .i64 a.line, int .i64 a.align, int .i64 a.dir, int .i64 a.width, slice r a.l.length t] 97 :: L) w' ∧ e = .returned (bool u) := by
 refine ac (N := 27) Tryz.func152 z z (Nat.le_of_ble_eq_true z)<|?_
 unfold eJ at H
 refine sr fun Q x=>io hI z z fun y R g=>aj z<|nl<|x _ _ _<|sr fun S A=>fa nF z<|ld g 0 bv z z z<|cc z z<|mv z<|bK H fun v hC H=>js 9 g [(1, pointer (some ⟨i, 0, none⟩)), (3, pointer (some ⟨y, 0, none⟩)), (17, bool v)] ?_ fun _ T h=>?_
 refine have H:=hC;dC (0 < a1.H) (fun c=>?_) fun c=>?_
 refine yK c H fun H=>fa (hw:=gY z z z (bY c)) nB z<|ld (hw:=gY z z z (bY c)) g 0 bv z z z<|ld (hw:=gY z z z (bY c)) g 1 bv z z z<|fa (hw:=gY z z z (bY c)) tT z<|ld (hw:=gY z z z (bY c)) g 2 bv z z z<|rl (hw:=gY z z z (bY c)) z z<|ba (hw:=gY z z z (bY c)) z z<|aN (hw:=gY z z z (bY c)) z z<|bR (bY c) z<|nl<|?_
 cases H
 exact je ⟨z, z, z, tv⟩ g
 refine nK c H fun H=>Sk 8 z z (bN c) z<|b7 (bN c) z<|nl<|?_
 cases H
 exact je ⟨z, z, z, tv⟩ g
 refine mv z<|bK H fun B hC H=>js 8 h [(26, bool B)] ?_ fun _ U C=>?_
 refine have H:=hC;dC (v = true) (fun d=>?_) fun d=>?_
 refine yK d H fun H=>fa (hw:=gY z z z (vY d)) nB z<|ld (hw:=gY z z z (vY d)) h 0 bv z z z<|fa (hw:=gY z z z (vY d)) nF z<|ld (hw:=gY z z z (vY d)) h 0 bv z z z<|ba (hw:=gY z z z (vY d)) z z<|ld (hw:=gY z z z (vY d)) h 1 bv z z z<|cc (hw:=gY z z z (vY d)) z z<|bR (vY d) z<|nl<|?_
 cases H
 exact je ⟨z, tv⟩ h
 refine nK d H fun H=>Sk 7 z z (vN d) z<|b7 (vN d) z<|nl<|?_
 cases H
 exact je ⟨z, tv⟩ h
 refine aj z<|nl<|A _ _ _<|wr<|have D:=Hp.pick 3 [1, 2] C z;?_
 cases H
 exact rt ⟨_, _, z, z, z⟩ D
theorem qE {a1 f g i G L w} (H : gF a1 = some i) (hI : Hp G L w) (S : a1.length ≤ g) (j : Dat (Kd.int .i64) G f a1) :
    Calls Tryz.prog 122 [slice f a1.length g].toArray w fun e w' => Hp G L w' ∧ e = .returned (int .i64 i) := by
 refine ac (N := 25) Tryz.func122 z z (Nat.le_of_ble_eq_true z)<|?_
 unfold gF at H
 refine sr fun T t=>aj z<|nl<|t _ _ _<|sQ fun U u=>sr fun V v=>mv z<|q_len lg z<|aN z z<|nl<|v _ _ _<|dC ((a1.length : Int) < 1) (fun b=>?_) fun b=>?_
 refine yK b H fun H=>wt (bY b)<|ae<|?_
 cases H
 refine nK b H fun H=>wf (bN b)<|ws<|u _ _ _<|sr fun W x=>mv z<|iK H fun⟨k, l⟩H=>?_
 obtain ⟨X, Y, y, A, Z, B⟩ := Dat.get j (0 : Int) (0) k l
 obtain rfl := A
 refine bP dI z y z k l<|fO hI bv z (gR.cel _ _ (B 0 _ z))<|aj z<|nl<|x _ _ _<|sQ fun aa C=>sr fun ab D=>aj z<|nl<|D _ _ _<|wb<|bK H fun m hC H=>aq (Q := fun e r ds w => e = .exit 0 ∧ ds = [] ∧ Has [(3, int .i64 m)] r ∧ Hp G (L) w ∧ True) ?_ ?_
 refine aB fun I s=>?_
 refine cU.partial_correctness a1 (fun n d o => ∀ (r : Rg) (w : World), Has [(0, slice f a1.length g), (3, int .i64 n), (4, int .i64 d)] r → Hp G (L) w → o = m → I r [] w) ?_ (a1.getD (Int.toNat 0) (0 : Int)) 1 _ hC _ _ ⟨rfl, rfl, rfl, tv⟩ hI rfl
 intro _ ih n d o H r ad a h ho
 rw [ho] at H; clear ho
 rw [a.eq]; clear a
 refine s _ _ _<|sQ fun af E=>sr fun ag F=>mv z<|mv z<|q_len lg z<|aN z z<|nl<|F _ _ _<|dC (d < (a1.length : Int)) (fun c=>?_) fun c=>?_
 refine yK c H fun H=>wt (bY c)<|ws<|E _ _ _<|sQ fun ah J=>wb<|ae<|mv z<|mv z<|mv z<|iK H fun⟨p, q⟩H=>?_
 obtain ⟨ai, ak, K, M, al, O⟩ := Dat.get j (0 : Int) (d) p q
 obtain rfl := M
 exact bP dI z K z p q<|fO h bv z (gR.cel _ _ (O 0 _ z))<|wn z z<|aj z<|nl<|J _ _ _<|ae<|mv z<|ba z z<|aj z<|nl<|ih _ _ _ H _ _ ⟨z, z, z, tv⟩ h z
 refine nK c H fun H=>wf (bN c)<|wx<|?_
 cases H
 exact ⟨z, z, ⟨z, tv⟩, h, tv⟩
 rintro e r ds am ⟨rfl, rfl, a, P, _⟩
 rw [a.eq]; clear a
 refine C _ _ _<|sr fun an R=>mv z<|aj z<|nl<|R _ _ _<|wr<|?_
 cases H
 exact rt ⟨_, _, z, z, z⟩ P
theorem mA {σ : Type} {St : σ → Gh → List eP → Prop} {yl} {φ : σ → (Int × Bool) → Option (σ × Bool)} {sy : σ} {a a22 h n p q t u x k m i aO} {ry : σ} {G T w} (H : dc φ sy a a22 = some (aO, ry)) (hI : Hp G (bx h [slice n a.f.Glyphs.length p, slice q a.f.Kerns.length t, int .i64 a.b.Before, int .i64 a.b.Behind, slice u a.b.Keep.length x, string a.s, int .i64 a.scale, int .i64 a.line, int .i64 a.align, int .i64 a.dir, int .i64 a.width, slice k a.l.length m] 97 :: bx i [int .i64 a22] 3 :: T) w) (a6 : a.f.Glyphs.length ≤ p) (a7 : Dat au G n a.f.Glyphs) (a8 : a.f.Kerns.length ≤ t) (a9 : Dat ay G q a.f.Kerns) (bb : a.b.Keep.length ≤ x) (bc : Dat Kd.str G u a.b.Keep) (bd : a.l.length ≤ m) (aP : Dat bm G k a.l) (hy : Yl Tryz.prog φ (vi (enc1 (Kd.int .i64)) (enc1 Kd.bool)) St yl) (hS : St sy G T) :
    Calls Tryz.prog 120 [func (.yield yl) #[] #[], pointer (some ⟨h, 0, none⟩), pointer (some ⟨i, 0, none⟩)].toArray w fun e w' => ∃ (T' : List eP) (G' : Gh), G ≤ G' ∧ Hp G' (bx h [slice n a.f.Glyphs.length p, slice q a.f.Kerns.length t, int .i64 a.b.Before, int .i64 a.b.Behind, slice u a.b.Keep.length x, string a.s, int .i64 a.scale, int .i64 a.line, int .i64 a.align, int .i64 a.dir, int .i64 a.width, slice k a.l.length m] 97 :: bx i [int .i64 aO] 3 :: T') w' ∧ St ry G' T' ∧ e = .returned (tuple [].toArray) := by
 refine ac (N := 44) Tryz.func120 z z (Nat.le_of_ble_eq_true z)<|?_
 unfold dc at H
 refine wb<|iJ H fun aQ aR hC H=>?_
 refine aq (Q := fun e r ds w => e = .ret ∧ ∃ (ad : List eP) (af : Gh), ds = [] ∧ G ≤ af ∧ Has [] r ∧ Hp af (bx h [slice n a.f.Glyphs.length p, slice q a.f.Kerns.length t, int .i64 a.b.Before, int .i64 a.b.Behind, slice u a.b.Keep.length x, string a.s, int .i64 a.scale, int .i64 a.line, int .i64 a.align, int .i64 a.dir, int .i64 a.width, slice k a.l.length m] 97 :: bx i [int .i64 aQ] 3 :: ad) w ∧ St aR af ad ∧ True) ?_ ?_
 refine aB fun I aD=>?_
 refine b8.partial_correctness φ a (fun A aS o => ∀ (L : List eP) (ah : Gh) (r : Rg) (w : World), G ≤ ah → Has [(0, func (.yield yl) #[] #[]), (1, pointer (some ⟨h, 0, none⟩)), (2, pointer (some ⟨i, 0, none⟩))] r → Hp ah (bx h [slice n a.f.Glyphs.length p, slice q a.f.Kerns.length t, int .i64 a.b.Before, int .i64 a.b.Behind, slice u a.b.Keep.length x, string a.s, int .i64 a.scale, int .i64 a.line, int .i64 a.align, int .i64 a.dir, int .i64 a.width, slice k a.l.length m] 97 :: bx i [int .i64 A] 3 :: L) w → St aS ah L → o = (aQ, aR) → I r [] w) ?_ a22 sy _ hC T _ _ _ gR ⟨rfl, rfl, rfl, tv⟩ hI hS rfl
 intro _ ih A aS o H L ah r cn B g aE bf ho
 rw [ho] at H; clear ho
 rw [g.eq]; clear g
 refine aD _ _ _<|wb<|sr fun co bg=>aj z<|nl<|bg _ _ _<|sr fun cp bh=>d9 aE 0 Bh z z z z<|ld aE 1 bv z z z<|iJ H fun U c bj H=>fU (vs := [agg [slice n a.f.Glyphs.length p, slice q a.f.Kerns.length t, int .i64 a.b.Before, int .i64 a.b.Behind, slice u a.b.Keep.length x, string a.s, int .i64 a.scale, int .i64 a.line, int .i64 a.align, int .i64 a.dir, int .i64 a.width, slice k a.l.length m].toArray, int .i64 A]) Eg z z (oZ bj aE a6 (Dat.mono B a7) a8 (Dat.mono B a9) bb (Dat.mono B bc) bd (Dat.mono B aP))<|?_
 rintro _ cq ⟨M, O, ai, ak, al, am, an, ao, ap, ar, aT, av, aU, bk, bl, bn, bo, bp, bq, br, bs, rfl⟩
 refine ⟨_, rfl, ?_⟩
 refine aj z<|nl<|bh _ _ _<|sQ fun cr bt=>sr fun ct bu=>fa yj z<|ld aU 2 Dw z z z<|q_len vO z<|mv z<|nl<|bu _ _ _<|wb<|bK H fun C hC H=>?_
 refine aq (Q := fun e r ds w => e = .exit 2 ∧ ∃ (D : Option Addr) (E : Nat) (aw : Gh), ds = [] ∧ aT ≤ aw ∧ Has [(0, func (.yield yl) #[] #[]), (1, pointer (some ⟨h, 0, none⟩)), (2, pointer (some ⟨i, 0, none⟩)), (4, slice D C.length E)] r ∧ Hp aw (bx M [int .i64 U] 3 :: bx O [slice ai c.f.Glyphs.length ak, slice al c.f.Kerns.length am, int .i64 c.b.Before, int .i64 c.b.Behind, slice an c.b.Keep.length ao, string c.s, int .i64 c.scale, int .i64 c.line, int .i64 c.align, int .i64 c.dir, int .i64 c.width, slice ap c.l.length ar] 97 :: bx h [slice n a.f.Glyphs.length p, slice q a.f.Kerns.length t, int .i64 a.b.Before, int .i64 a.b.Behind, slice u a.b.Keep.length x, string a.s, int .i64 a.scale, int .i64 a.line, int .i64 a.align, int .i64 a.dir, int .i64 a.width, slice k a.l.length m] 97 :: bx i [int .i64 A] 3 :: tk (slice D C.length E) 1 3 :: L) w ∧ C.length ≤ E ∧ Dat (Kd.int .i64) aw D C ∧ Own D E ∧ True) ?_ ?_
 refine have bw:=Hp.emp aU;have bz:=Hp.pick 5 [1, 2, 3, 4, 0] bw z;aB fun I aD=>?_
 refine bi.partial_correctness a U c (fun P d o => ∀ (F : Option Addr) (J : Nat) (V : Gh) (r : Rg) (w : World), aT ≤ V → Has [(0, func (.yield yl) #[] #[]), (1, pointer (some ⟨h, 0, none⟩)), (2, pointer (some ⟨i, 0, none⟩)), (4, slice F P.length J), (5, func (.func 152) [].toArray [pointer (some ⟨M, 0, none⟩), pointer (some ⟨O, 0, none⟩)].toArray), (12, slice k a.l.length m), (13, int .i64 (a.l.length : Int)), (14, int .i64 d)] r → Hp V (bx M [int .i64 U] 3 :: bx O [slice ai c.f.Glyphs.length ak, slice al c.f.Kerns.length am, int .i64 c.b.Before, int .i64 c.b.Behind, slice an c.b.Keep.length ao, string c.s, int .i64 c.scale, int .i64 c.line, int .i64 c.align, int .i64 c.dir, int .i64 c.width, slice ap c.l.length ar] 97 :: bx h [slice n a.f.Glyphs.length p, slice q a.f.Kerns.length t, int .i64 a.b.Before, int .i64 a.b.Behind, slice u a.b.Keep.length x, string a.s, int .i64 a.scale, int .i64 a.line, int .i64 a.align, int .i64 a.dir, int .i64 a.width, slice k a.l.length m] 97 :: bx i [int .i64 A] 3 :: tk (slice F P.length J) 1 3 :: L) w → P.length ≤ J → Dat (Kd.int .i64) V F P → Own F J → o = C → I r [] w) ?_ ([] : List Int) 0 _ hC none 0 _ _ _ gR ⟨rfl, rfl, rfl, rfl, rfl, rfl, rfl, rfl, tv⟩ bz (show ([] : List Int).length ≤ 0 from Nat.le_refl 0) (Dat.nil _ _ _) Own.nil rfl
 intro _ ih P d o H F J V r cu K g aF aG aH aI ho
 rw [ho] at H; clear ho
 rw [g.eq]; clear g
 refine aD _ _ _<|sr fun cw bB=>aN z z<|nl<|bB _ _ _<|sQ fun cx bC=>dC (d < (a.l.length : Int)) (fun Z=>?_) fun Z=>?_
 refine yK Z H fun H=>wt (bY Z)<|ws<|bC _ _ _<|sQ fun cy bD=>bK H fun az hC H=>?_
 refine aq (Q := fun e r ds w => e = .normal ∧ ∃ (R : Option Addr) (S : Nat) (aA : Gh), ds = [] ∧ V ≤ aA ∧ Has [(0, func (.yield yl) #[] #[]), (1, pointer (some ⟨h, 0, none⟩)), (2, pointer (some ⟨i, 0, none⟩)), (4, slice R az.length S), (5, func (.func 152) [].toArray [pointer (some ⟨M, 0, none⟩), pointer (some ⟨O, 0, none⟩)].toArray), (12, slice k a.l.length m), (13, int .i64 (a.l.length : Int)), (14, int .i64 d)] r ∧ Hp aA (bx M [int .i64 U] 3 :: bx O [slice ai c.f.Glyphs.length ak, slice al c.f.Kerns.length am, int .i64 c.b.Before, int .i64 c.b.Behind, slice an c.b.Keep.length ao, string c.s, int .i64 c.scale, int .i64 c.line, int .i64 c.align, int .i64 c.dir, int .i64 c.width, slice ap c.l.length ar] 97 :: bx h [slice n a.f.Glyphs.length p, slice q a.f.Kerns.length t, int .i64 a.b.Before, int .i64 a.b.Behind, slice u a.b.Keep.length x, string a.s, int .i64 a.scale, int .i64 a.line, int .i64 a.align, int .i64 a.dir, int .i64 a.width, slice k a.l.length m] 97 :: bx i [int .i64 A] 3 :: tk (slice R az.length S) 1 3 :: L) w ∧ az.length ≤ S ∧ Dat (Kd.int .i64) aA R az ∧ Own R S ∧ True) ?_ ?_
 refine have H:=hC;wb<|sr fun cz bE=>iK H fun⟨aV, aW⟩H=>?_
 obtain ⟨cA, cB, bG, bH, cC, bI⟩ := Dat.get (Dat.mono (gT (gT B av) K) aP) ag (d) aV aW
 obtain ⟨rfl⟩ := bF bH
 refine bP oh z bG z aV aW<|ki aF vc z (cs := [int .i64 ((a.l.getD (Int.toNat d) ag).Side), int .i64 ((a.l.getD (Int.toNat d) ag).X), int .i64 ((a.l.getD (Int.toNat d) ag).Y), int .i64 ((a.l.getD (Int.toNat d) ag).W), int .i64 ((a.l.getD (Int.toNat d) ag).H)]) z (fun j v hv => gR.cel _ _ (bI j v hv))<|aM aF zi fun cD cE bJ=>fX bJ 0 vc z z z z z z z fun cF aX=>nl<|bE _ _ _<|sr fun cG bL=>mv z<|d9 aX 0 vc z z z z<|have bM:=Hp.pick 6 [1, 2, 0, 3, 4, 5] aX z;bK H fun bO bQ H=>cv ER (mQ (a1 := (a.l.getD (Int.toNat d) ag)) bQ bM bk (Dat.mono K bl) bn (Dat.mono K bo) bp (Dat.mono K bq) br (Dat.mono K bs)) z z fun cH aC=>nl<|bL _ _ _<|?_
 refine dC (bO = true) (fun aa=>?_) fun aa=>?_
 refine yK aa H fun H=>wt (vY aa)<|ae<|mv z<|fa nB z<|ld aC 2 bv z z z<|fa nF z<|ld aC 2 bv z z z<|ba z z<|?_
 refine mm aC (vs := [(0, int .i64 (ax (((a.l.getD (Int.toNat d) ag).Y) + ((a.l.getD (Int.toNat d) ag).H))))]) (cs := [int .i64 (ax (((a.l.getD (Int.toNat d) ag).Y) + ((a.l.getD (Int.toNat d) ag).H)))]) dI vI rfl (by decide) rfl rfl (fun cI cJ aY => ?_)
 refine iK H fun cK H=>?_
 refine lu (xs := P) (ys := [ax (((a.l.getD (Int.toNat d) ag).Y) + ((a.l.getD (Int.toNat d) ag).H))]) (Kd.int .i64) aY 6 dI vI rfl rfl rfl rfl aI aG aH (jF aY 0 lg rfl rfl) ⟨[int .i64 (ax (((a.l.getD (Int.toNat d) ag).Y) + ((a.l.getD (Int.toNat d) ag).H)))], _, rfl, rfl, rfl⟩ rfl (by simp only [List.length_cons, List.length_nil]; omega) (by simp only [List.length_cons, List.length_nil]; omega) (fun bS bT cL cM bU bV bW bX bZ => ?_)
 refine aj z<|nl<|have b0:=Hp.pick 7 [1, 2, 4, 5, 6] bZ z;?_
 cases H
 exact ⟨z, bS, bT, _, z, bU, ⟨z, z, z, z, z, z, z, z, tv⟩, b0, bW, bX, bV, tv⟩
 refine nK aa H fun H=>wf (vN aa)<|ws<|have b1:=Hp.pick 6 [0, 1, 3, 4, 5] aC z;?_
 cases H
 exact ⟨z, F, J, _, z, gR, ⟨z, z, z, z, z, z, z, z, tv⟩, b1, aG, aH, aI, tv⟩
 rintro e r ds cN ⟨rfl, R, S, aA, rfl, b2, g, b3, b4, b5, b6, _⟩
 rw [g.eq]; clear g
 exact bD _ _ _<|ae<|ba z z<|mv z<|nl<|ih _ _ _ H R S _ _ _ (gT K b2) ⟨z, z, z, z, z, z, z, z, tv⟩ b3 b4 b5 b6 z
 refine nK Z H fun H=>wf (bN Z)<|wx<|?_
 cases H
 exact ⟨z, F, J, _, z, K, ⟨z, z, z, z, tv⟩, aF, aG, aH, aI, tv⟩
 rintro e r ds cO ⟨rfl, D, E, aw, rfl, aJ, g, aZ, b9, ca, cP, _⟩
 rw [g.eq]; clear g
 refine bt _ _ _<|sQ fun cQ cb=>sr fun cR cd=>mv z<|ld aZ 3 bv z z z<|mv z<|q_len lg z<|cc z z<|iJ H fun cS ce hx216 H=>vP hy [bx M [int .i64 U] 3, bx O [slice ai c.f.Glyphs.length ak, slice al c.f.Kerns.length am, int .i64 c.b.Before, int .i64 c.b.Behind, slice an c.b.Keep.length ao, string c.s, int .i64 c.scale, int .i64 c.line, int .i64 c.align, int .i64 c.dir, int .i64 c.width, slice ap c.l.length ar] 97, bx h [slice n a.f.Glyphs.length p, slice q a.f.Kerns.length t, int .i64 a.b.Before, int .i64 a.b.Behind, slice u a.b.Keep.length x, string a.s, int .i64 a.scale, int .i64 a.line, int .i64 a.align, int .i64 a.dir, int .i64 a.width, slice k a.l.length m] 97, bx i [int .i64 A] 3, tk (slice D C.length E) 1 3] aZ (hy.mono (gT av aJ) bf) z z ⟨_, _, z, ⟨_, z, z⟩, ⟨_, z, z⟩⟩ hx216 fun cT cU a0 aK a2 aL=>be z<|mv z<|bK H fun a4 hC H=>js 4 aL [(0, func (.yield yl) #[] #[]), (1, pointer (some ⟨h, 0, none⟩)), (2, pointer (some ⟨i, 0, none⟩)), (4, slice D C.length E), (41, bool a4)] ?_ fun _ cV a5=>?_
 refine have H:=hC;dC ((!ce) = true) (fun y=>?_) fun y=>?_
 refine yK y H fun H=>Sk 3 z z (vY y) z<|bR (vY y) z<|nl<|?_
 cases H
 exact je ⟨z, z, z, z, z, tv⟩ aL
 refine nK y H fun H=>mv (hw:=gY z z z (vN y)) z<|q_len (hw:=gY z z z (vN y)) lg z<|bA (hw:=gY z z z (vN y)) z z<|b7 (vN y) z<|nl<|?_
 cases H
 exact je ⟨z, z, z, z, z, tv⟩ aL
 refine nl<|cd _ _ _<|dC (a4 = true) (fun ab=>?_) fun ab=>?_
 refine yK ab H fun H=>wt (vY ab)<|wr<|have cf:=Hp.pick 5 [2, 3] a5 z;?_
 cases H
 exact ⟨z, a0, _, z, (gT (gT (gT B av) aJ) aK), trivial, cf, a2, tv⟩
 exact nK ab H fun H=>wf (vN ab)<|ws<|cb _ _ _<|ae<|mv z<|bK H fun cW cg H=>cv Eo (qE cg a5 b9 (Dat.mono aK ca)) z z fun cX ch=>fX ch 3 bv z z z z z z z fun cY ci=>nl<|have cj:=Hp.pick 5 [2, 3] ci z;ih _ _ _ H a0 _ _ _ (gT (gT (gT B av) aJ) aK) ⟨z, z, z, tv⟩ cj a2 z
 rintro e r ds cZ ⟨rfl, ad, af, rfl, ck, g, cl, cm, _⟩
 rw [g.eq]; clear g
 cases H
 exact ⟨.inr z, z, _, z, ad, _, ck, cl, cm, z⟩
theorem nN {a1 : gt} {b G L w} (H : iq a1 = some b) (hI : Hp G L w) :
    Calls Tryz.prog 119 [agg [int .i64 a1.Float.Side, int .i64 a1.Float.X, int .i64 a1.Float.Y, int .i64 a1.Float.W, int .i64 a1.Float.H].toArray].toArray w fun e w' => Hp G L w' ∧ e = .returned (int .i64 b) := by
 refine ac (N := 10) Tryz.func119 z z (Nat.le_of_ble_eq_true z)<|?_
 unfold iq at H
 refine sr fun g c=>io hI z z fun h i a=>aj z<|nl<|c _ _ _<|sr fun j d=>fa n0 z<|fa nB z<|ld a 0 bv z z z<|fa n0 z<|fa nF z<|ld a 0 bv z z z<|ba z z<|aj z<|?_
 refine nl<|d _ _ _<|wr<|have f:=Hp.pick 1 [] a z;?_
 cases H
 exact rt ⟨_, _, z, z, z⟩ f
theorem nJ {a1 : gt} {a2 f g G L w} (H : ez a1 a2 f = some g) (hI : Hp G L w) :
    Calls Tryz.prog 84 [agg [int .i64 a1.Float.Side, int .i64 a1.Float.X, int .i64 a1.Float.Y, int .i64 a1.Float.W, int .i64 a1.Float.H].toArray, int .i64 a2, int .i64 f].toArray w fun e w' => Hp G L w' ∧ e = .returned (bool g) := by
 refine ac (N := 27) Tryz.func84 z z (Nat.le_of_ble_eq_true z)<|?_
 unfold ez at H
 refine sr fun q i=>io hI z z fun j r c=>aj z<|nl<|i _ _ _<|sr fun s k=>fa n0 z<|fa nF z<|ld c 0 bv z z z<|cc z z<|mv z<|bK H fun h hC H=>js 9 c [(1, int .i64 a2), (3, pointer (some ⟨j, 0, none⟩)), (20, bool h)] ?_ fun _ t d=>?_
 refine have H:=hC;dC (0 < a1.Float.H) (fun a=>?_) fun a=>?_
 refine yK a H fun H=>fa (hw:=gY z z z (bY a)) n0 z<|fa (hw:=gY z z z (bY a)) nB z<|ld (hw:=gY z z z (bY a)) c 0 bv z z z<|mv (hw:=gY z z z (bY a)) z<|mv (hw:=gY z z z (bY a)) z<|rl (hw:=gY z z z (bY a)) z z<|ba (hw:=gY z z z (bY a)) z z<|aN (hw:=gY z z z (bY a)) z z<|bR (bY a) z<|nl<|?_
 cases H
 exact je ⟨z, z, z, tv⟩ c
 refine nK a H fun H=>Sk 8 z z (bN a) z<|b7 (bN a) z<|nl<|?_
 cases H
 exact je ⟨z, z, z, tv⟩ c
 refine mv z<|bK H fun l hC H=>js 5 d [(26, bool l)] ?_ fun _ u m=>?_
 refine have H:=hC;dC (h = true) (fun b=>?_) fun b=>?_
 refine yK b H fun H=>d9 (hw:=gY z z z (vY b)) d 0 AZ z z z z<|bK H fun v n H=>cv (hw:=gY z z z (vY b)) Ew (nN n d) z z fun x o=>mv (hw:=gY z z z (vY b)) z<|cc (hw:=gY z z z (vY b)) z z<|bR (vY b) z<|nl<|?_
 cases H
 exact je ⟨z, tv⟩ o
 refine nK b H fun H=>Sk 4 z z (vN b) z<|b7 (vN b) z<|nl<|?_
 cases H
 exact je ⟨z, tv⟩ d
 refine aj z<|nl<|k _ _ _<|wr<|have p:=Hp.pick 1 [] m z;?_
 cases H
 exact rt ⟨_, _, z, z, z⟩ p
theorem sN {a1 a6 h i n p q x G L w} (H : la a1 a6 h i = some (q, x)) (hI : Hp G L w) (aP : a1.length ≤ p) (R : Dat bm G n a1) :
    Calls Tryz.prog 45 [slice n a1.length p, int .i64 a6, int .i64 h, int .i64 i].toArray w fun e w' => Hp G L w' ∧ e = .returned (tuple [agg [int .i64 q.Lo, int .i64 q.Hi].toArray, bool x].toArray) := by
 refine ac (N := 61) Tryz.func45 z z (Nat.le_of_ble_eq_true z)<|?_
 unfold la at H
 refine sr fun K9 S=>aM hI rp fun c aR T=>aj z<|nl<|S _ _ _<|sr fun aS U=>mv z<|bO (vs := [(1, int .i64 a6)]) (cs := [int .i64 0, int .i64 a6]) rp Cr z z<|aM T rp fun d aT V=>fX V 0 oF z z z z z z z fun aU Z=>aj z<|nl<|U _ _ _<|sQ fun aV aa=>?_
 refine sr fun aW ab=>mv z<|q_len vO z<|mv z<|nl<|ab _ _ _<|wb<|xr H fun y qs s hC H=>aq (Q := fun e r ds w => e = .exit 0 ∧ ds = [] ∧ Has [(8, pointer (some ⟨c, 0, none⟩)), (10, pointer (some ⟨d, 0, none⟩)), (11, bool y)] r ∧ Hp G (bx d [int .i64 qs, int .i64 s] 53 :: bx c [int .i64 0, int .i64 0] 53 :: L) w ∧ True) ?_ ?_
 refine aB fun I O=>?_
 refine ee.partial_correctness a1 h i (fun A a B C o => ∀ (r : Rg) (w : World), Has [(2, int .i64 h), (3, int .i64 i), (8, pointer (some ⟨c, 0, none⟩)), (10, pointer (some ⟨d, 0, none⟩)), (11, bool A), (17, slice n a1.length p), (18, int .i64 (a1.length : Int)), (19, int .i64 a)] r → Hp G (bx d [int .i64 B, int .i64 C] 53 :: bx c [int .i64 0, int .i64 0] 53 :: L) w → o = (y, qs, s) → I r [] w) ?_ false 0 0 a6 _ hC _ _ ⟨rfl, rfl, rfl, rfl, rfl, rfl, rfl, rfl, tv⟩ Z rfl
 intro _ ih A a B C o H r aX f t ho
 rw [ho] at H; clear ho
 rw [f.eq]; clear f
 refine O _ _ _<|sr fun aY ad=>aN z z<|nl<|ad _ _ _<|sQ fun aZ af=>dC (a < (a1.length : Int)) (fun k=>?_) fun k=>?_
 refine yK k H fun H=>wt (bY k)<|ws<|af _ _ _<|sQ fun a0 ah=>xr H fun ai ak al hC H=>?_
 refine jC .normal G [(2, int .i64 h), (3, int .i64 i), (8, pointer (some ⟨c, 0, none⟩)), (10, pointer (some ⟨d, 0, none⟩)), (11, bool ai), (17, slice n a1.length p), (18, int .i64 (a1.length : Int)), (19, int .i64 a)] (bx d [int .i64 ak, int .i64 al] 53 :: bx c [int .i64 0, int .i64 0] 53 :: L) ?_ fun _ a2 am=>?_
 refine have H:=hC;wb<|sr fun a3 an=>iK H fun⟨D, E⟩H=>?_
 obtain ⟨a4, a5, ao, ap, a9, ar⟩ := Dat.get R ag (a) D E
 obtain ⟨rfl⟩ := bF ap
 refine bP oh z ao z D E<|ki t vc z (cs := [int .i64 ((a1.getD (Int.toNat a) ag).Side), int .i64 ((a1.getD (Int.toNat a) ag).X), int .i64 ((a1.getD (Int.toNat a) ag).Y), int .i64 ((a1.getD (Int.toNat a) ag).W), int .i64 ((a1.getD (Int.toNat a) ag).H)]) z (fun j v hv => gR.cel _ _ (ar j v hv))<|aM t zi fun bb bc au=>fX au 0 vc z z z z z z z fun bd F=>nl<|an _ _ _<|sr fun bf av=>d9 F 0 vc z z z z<|bO (vs := [(0, agg [int .i64 ((a1.getD (Int.toNat a) ag).Side), int .i64 ((a1.getD (Int.toNat a) ag).X), int .i64 ((a1.getD (Int.toNat a) ag).Y), int .i64 ((a1.getD (Int.toNat a) ag).W), int .i64 ((a1.getD (Int.toNat a) ag).H)].toArray)]) (cs := [int .i64 ((a1.getD (Int.toNat a) ag).Side), int .i64 ((a1.getD (Int.toNat a) ag).X), int .i64 ((a1.getD (Int.toNat a) ag).Y), int .i64 ((a1.getD (Int.toNat a) ag).W), int .i64 ((a1.getD (Int.toNat a) ag).H)]) C5 EY z z<|aM F C5 fun bg bh aw=>fX aw 0 AZ z z z z z z z fun bi J=>nl<|av _ _ _<|sQ fun bj ax=>?_
 refine sr fun bk ay=>d9 J 0 AZ z z z z<|mv z<|mv z<|bK H fun az aA H=>cv bo84 (nJ (a1 := (⟨(a1.getD (Int.toNat a) ag)⟩ : gt)) aA J) z z fun bl b=>be z<|nl<|ay _ _ _<|dC ((!az) = true) (fun l=>?_) fun l=>?_
 refine yK l H fun H=>wt (vY l)<|wx<|have aC:=Hp.pick 4 [2, 3] b z;?_
 cases H
 exact je ⟨z, z, z, z, z, z, z, z, tv⟩ aC
 refine nK l H fun H=>wf (vN l)<|ws<|ax _ _ _<|sr fun bn aD=>aj z<|nl<|aD _ _ _<|sr fun bo aE=>fa n0 z<|fa sH z<|ld b 0 bv z z z<|bA z z<|nl<|?_
 refine aE _ _ _<|dC (((a1.getD (Int.toNat a) ag).Side) = 1) (fun m=>?_) fun m=>?_
 refine yK m H fun H=>wt (bY m)<|ae<|fa kn z<|ld b 2 bv z z z<|fa n0 z<|fa sA z<|ld b 0 bv z z z<|fa n0 z<|fa vH z<|ld b 0 bv z z z<|ba z z<|rl z z<|fa kn z<|?_
 refine fX b 2 bv z z z z z z z fun bp aF=>nl<|have aG:=Hp.pick 4 [2, 3] aF z;?_
 cases H
 exact je ⟨z, z, z, z, z, z, z, z, tv⟩ aG
 refine nK m H fun H=>wf (bN m)<|ae<|fa kN z<|ld b 2 bv z z z<|fa n0 z<|fa sA z<|ld b 0 bv z z z<|wn z z<|fa kN z<|fX b 2 bv z z z z z z z fun bq aH=>nl<|have aI:=Hp.pick 4 [2, 3] aH z;?_
 cases H
 exact je ⟨z, z, z, z, z, z, z, z, tv⟩ aI
 exact ah _ _ _<|ae<|ba z z<|mv z<|nl<|ih _ _ _ _ _ H _ _ ⟨z, z, z, z, z, z, z, z, tv⟩ am z
 refine nK k H fun H=>wf (bN k)<|wx<|?_
 cases H
 exact ⟨z, z, ⟨z, z, z, tv⟩, t, tv⟩
 rintro e r ds br ⟨rfl, rfl, f, u, _⟩
 rw [f.eq]; clear f
 refine aa _ _ _<|sr fun bs aJ=>fa kn z<|ld u 0 bv z z z<|fa kN z<|ld u 0 bv z z z<|rl z z<|fa kN z<|fX u 0 bv z z z z z z z fun bt K=>nl<|aJ _ _ _<|sr fun bu aK=>d9 K 0 oF z z z z<|mv z<|?_
 refine fX K 1 oF z z z z z z z fun bw M=>aj z<|nl<|aK _ _ _<|wr<|have aL:=bW (P := Tryz.prog) M 1 (cs := [int .i64 qs, int .i64 (max qs s)]) (g := c) (o := 0) oF z z z;have aO:=Hp.pick 2 [] M z;?_
 cases H
 exact rt ⟨_, _, _, z, z, aL, ⟨_, _, z, z, z⟩⟩ aO
theorem si {a1 a6 d f h i k n G L w} (H : jY a1 a6 d f = some (k, n)) (hI : Hp G L w) (p : a1.length ≤ i) (q : Dat bm G h a1) :
    Calls Tryz.prog 18 [slice h a1.length i, int .i64 a6, int .i64 d, int .i64 f].toArray w fun e w' => Hp G L w' ∧ e = .returned (tuple [agg [int .i64 k.Lo, int .i64 k.Hi].toArray, int .i64 n].toArray) := by
 refine ac (N := 36) Tryz.func18 z z (Nat.le_of_ble_eq_true z)<|?_
 unfold jY at H
 refine sr fun Z A=>aM hI rp fun j aa B=>aj z<|nl<|A _ _ _<|sQ fun ab C=>sr fun ad D=>mv z<|mv z<|bK H fun E F H=>cv EF (oc F B p q) z z fun ae l=>be z<|mv z<|bK H fun r hC H=>?_
 refine js 4 l [(0, slice h a1.length i), (1, int .i64 a6), (2, int .i64 d), (3, int .i64 f), (8, pointer (some ⟨j, 0, none⟩)), (20, bool r)] ?_ fun _ af m=>?_
 refine have H:=hC;dC ((!E) = true) (fun a=>?_) fun a=>?_
 refine yK a H fun H=>Sk 3 z z (vY a) z<|bR (vY a) z<|nl<|?_
 cases H
 exact je ⟨z, z, z, z, z, z, tv⟩ l
 refine nK a H fun H=>mv (hw:=gY z z z (vN a)) z<|bK H fun ag I H=>cv (hw:=gY z z z (vN a)) xA (ei I l) z z fun ah J=>be (hw:=gY z z z (vN a)) z<|b7 (vN a) z<|nl<|?_
 cases H
 exact je ⟨z, z, z, z, z, z, tv⟩ J
 refine mv z<|bK H fun s hC H=>js 4 m [(0, slice h a1.length i), (1, int .i64 a6), (2, int .i64 d), (3, int .i64 f), (8, pointer (some ⟨j, 0, none⟩)), (25, bool s)] ?_ fun _ ai t=>?_
 refine have H:=hC;dC (r = true) (fun b=>?_) fun b=>?_
 refine yK b H fun H=>Sk 3 z z (vY b) z<|bR (vY b) z<|nl<|?_
 cases H
 exact je ⟨z, z, z, z, z, z, tv⟩ m
 refine nK b H fun H=>mv (hw:=gY z z z (vN b)) z<|bK H fun ak K H=>cv (hw:=gY z z z (vN b)) xA (ei K m) z z fun al M=>be (hw:=gY z z z (vN b)) z<|b7 (vN b) z<|nl<|?_
 cases H
 exact je ⟨z, z, z, z, z, z, tv⟩ M
 refine nl<|D _ _ _<|dC (s = true) (fun c=>?_) fun c=>?_
 refine yK c H fun H=>wt (vY c)<|sr fun am O=>bO (vs := []) (cs := [int .i64 0, int .i64 0]) rp Cr z z<|fX t 0 oF z z z z z z z fun an u=>aj z<|nl<|O _ _ _<|wr<|have Q:=bW (P := Tryz.prog) u 0 (cs := [int .i64 0, int .i64 0]) (g := j) (o := 0) oF z z z;have R:=Hp.pick 1 [] u z;?_
 cases H
 exact rt ⟨_, _, _, z, z, Q, ⟨_, _, z, z, z⟩⟩ R
 refine nK c H fun H=>wf (vN c)<|ws<|C _ _ _<|sr fun ao S=>mv z<|mv z<|mv z<|mv z<|iJ H fun v ap T H=>cv bo45 (sN T t p q) z z fun aq U=>mv z<|cK z z<|cK z z<|?_
 refine aM U rp fun ar au V=>fX V 0 oF z z z z z z z fun av x=>aj z<|nl<|S _ _ _<|sr fun aw W=>d9 x 0 oF z z z z<|fX x 1 oF z z z z z z z fun ax y=>aj z<|nl<|W _ _ _<|wr<|have X:=bW (P := Tryz.prog) y 1 (cs := [int .i64 v.Lo, int .i64 v.Hi]) (g := j) (o := 0) oF z z z;have Y:=Hp.pick 2 [] y z;?_
 cases H
 exact rt ⟨_, _, _, z, z, X, ⟨_, _, z, z, z⟩⟩ Y
theorem sl {a1 a2 d G L w} (H : jO a1 a2 = some d) (hI : Hp G L w) :
    Calls Tryz.prog 146 [string a1, int .i64 a2].toArray w fun e w' => Hp G L w' ∧ e = .returned (bool d) := by
 refine ac (N := 15) Tryz.func146 z z (Nat.le_of_ble_eq_true z)<|?_
 unfold jO at H
 refine sr fun n g=>aj z<|nl<|g _ _ _<|sr fun o h=>mv z<|bK H fun f i H=>cv zP (ij i hI) z z fun p c=>mv z<|bK H fun j hC H=>js 7 c [(14, bool j)] ?_ fun _ q k=>?_
 refine have H:=hC;dC (f = true) (fun a=>?_) fun a=>?_
 refine yK a H fun H=>mv (hw:=gY z z z (vY a)) z<|bA (hw:=gY z z z (vY a)) z z<|mv (hw:=gY z z z (vY a)) z<|bK H fun l hC H=>js 3 c [(7, bool f), (13, bool l)] ?_ fun _ r m=>?_
 refine have H:=hC;dC (a2 = 0) (fun b=>?_) fun b=>?_
 refine yK b H fun H=>Sk 2 z z (bY b) z<|bR (hw:=gY z z z (vY a)) (bY b) z<|nl<|?_
 cases H
 exact je ⟨z, z, tv⟩ c
 refine nK b H fun H=>mv (hw:=gY z z z (bN b)) z<|bA (hw:=gY z z z (bN b)) z z<|b7 (hw:=gY z z z (vY a)) (bN b) z<|nl<|?_
 cases H
 exact je ⟨z, z, tv⟩ c
 refine bR (vY a) z<|nl<|?_
 cases H
 exact je ⟨z, tv⟩ m
 refine nK a H fun H=>Sk 3 z z (vN a) z<|Su 2 z<|wN (gN z z z (vN a) z)<|b7 (vN a) z<|nl<|?_
 cases H
 exact je ⟨z, tv⟩ c
 refine aj z<|nl<|h _ _ _<|wr<|?_
 cases H
 exact rt ⟨_, _, z, z, z⟩ k
theorem o5 {a1 b c a G L w} (H : fZ a1 = some a) (hI : Hp G L w) (k : a1.length ≤ c) (l : Dat (Kd.int .u8) G b a1) :
    Calls Tryz.prog 173 [slice b a1.length c, func (.func 174) [].toArray [].toArray].toArray w fun e w' => ∃ (d : Nat) (f : Option Addr) (g : Nat) (h : Nat) (G' : Gh), G ≤ G' ∧ Hp G' (bx d [slice f a.length g] 133 :: bx h [func (.func 174) [].toArray [].toArray] 186 :: L) w' ∧ a.length ≤ g ∧ Dat (Kd.int .u8) G' f a ∧ e = .returned (func (.func 187) [].toArray [pointer (some ⟨d, 0, none⟩), pointer (some ⟨h, 0, none⟩)].toArray) := by
 refine ac (N := 6) Tryz.func173 z z (Nat.le_of_ble_eq_true z)<|?_
 unfold fZ at H
 refine sr fun r m=>io hI z z fun i s n=>io n z z fun j t o=>aj z<|nl<|m _ _ _<|sr fun u p=>qG (vs := []) (us := [pointer (some ⟨i, 0, none⟩), pointer (some ⟨j, 0, none⟩)]) z z<|aj z<|nl<|p _ _ _<|wr<|have q:=Hp.pick 2 [1, 0] o z;?_
 cases H
 exact ⟨.inr z, z, _, ⟨_, _, z, z, z⟩, i, b, c, j, _, gR, q, k, l, z⟩
theorem o9 {a1 a G L w} (H : f6 a1 = some a) (hI : Hp G L w) :
    Calls Tryz.prog 174 [int .u8 a1].toArray w fun e w' => Hp G L w' ∧ e = .returned (bool a) := by
 refine ac (N := 6) Tryz.func174 z z (Nat.le_of_ble_eq_true z)<|?_
 unfold f6 at H
 refine sr fun g b=>aj z<|nl<|b _ _ _<|sr fun h c=>mv z<|bK H fun i d H=>cv we (fe d hI) z z fun j f=>cc z z<|aj z<|nl<|c _ _ _<|wr<|?_
 cases H
 exact rt ⟨_, _, z, z, z⟩ f
theorem ot {σ : Type} {St : σ → Gh → List eP → Prop} {yl} {φ : σ → (Int × Int) → Option (σ × Bool)} {sy : σ} {b d h i f} {ry : σ} {G T w} (H : dO φ sy b = some ry) (hI : Hp G (bx d [slice h b.length i] 133 :: bx f [func (.func 174) [].toArray [].toArray] 186 :: T) w) (aR : b.length ≤ i) (af : Dat (Kd.int .u8) G h b) (hy : Yl Tryz.prog φ (vi (enc1 (Kd.int .i64)) (enc1 (Kd.int .i64))) St yl) (hS : St sy G T) :
    Calls Tryz.prog 187 [func (.yield yl) #[] #[], pointer (some ⟨d, 0, none⟩), pointer (some ⟨f, 0, none⟩)].toArray w fun e w' => ∃ (T' : List eP) (G' : Gh), G ≤ G' ∧ Hp G' (bx d [slice h b.length i] 133 :: bx f [func (.func 174) [].toArray [].toArray] 186 :: T') w' ∧ St ry G' T' ∧ e = .returned (tuple [].toArray) := by
 refine ac (N := 40) Tryz.func187 z z (Nat.le_of_ble_eq_true z)<|?_
 unfold dO at H
 refine sr fun aS ag=>aj z<|nl<|ag _ _ _<|wb<|bK H fun E hC H=>?_
 refine aq (Q := fun e r ds w => match (generalizing := false) E with | (Sum.inl O) => e = .ret ∧ ∃ (t : List eP) (u : Gh), ds = [] ∧ G ≤ u ∧ Has [] r ∧ Hp u (bx d [slice h b.length i] 133 :: bx f [func (.func 174) [].toArray [].toArray] 186 :: t) w ∧ St O u t ∧ True | (Sum.inr P) => e = .exit 0 ∧ ∃ (x : List eP) (y : Gh), ds = [] ∧ G ≤ y ∧ Has [] r ∧ Hp y (bx d [slice h b.length i] 133 :: bx f [func (.func 174) [].toArray [].toArray] 186 :: x) w ∧ St P y x ∧ True) ?_ ?_
 refine aB fun I D=>?_
 refine bg.partial_correctness φ b (fun j R o => ∀ (k : List eP) (l : Gh) (r : Rg) (w : World), G ≤ l → Has [(0, func (.yield yl) #[] #[]), (1, pointer (some ⟨d, 0, none⟩)), (2, pointer (some ⟨f, 0, none⟩)), (4, int .i64 j)] r → Hp l (bx d [slice h b.length i] 133 :: bx f [func (.func 174) [].toArray [].toArray] 186 :: k) w → St R l k → o = E → I r [] w) ?_ 0 sy _ hC T _ _ _ gR ⟨rfl, rfl, rfl, rfl, tv⟩ hI hS rfl
 intro _ ih j R o H k l r aT A a F J ho
 rw [ho] at H; clear ho
 rw [a.eq]; clear a
 refine D _ _ _<|sQ fun aU ah=>sr fun aV ai=>mv z<|ld F 0 Ak z z z<|q_len sd z<|aN z z<|nl<|ai _ _ _<|dC (j < (b.length : Int)) (fun n=>?_) fun n=>?_
 refine yK n H fun H=>wt (bY n)<|ws<|ah _ _ _<|sQ fun aW ak=>wb<|sr fun aX al=>mv z<|aj z<|nl<|al _ _ _<|sQ fun aY am=>wb<|bK H fun B hC H=>?_
 refine aq (Q := fun e r ds w => e = .exit 2 ∧ ds = [] ∧ Has [(0, func (.yield yl) #[] #[]), (1, pointer (some ⟨d, 0, none⟩)), (2, pointer (some ⟨f, 0, none⟩)), (4, int .i64 j), (5, int .i64 B)] r ∧ Hp l (bx d [slice h b.length i] 133 :: bx f [func (.func 174) [].toArray [].toArray] 186 :: k) w ∧ True) ?_ ?_
 refine aB fun I D=>?_
 refine bu.partial_correctness b (fun m o => ∀ (r : Rg) (w : World), Has [(0, func (.yield yl) #[] #[]), (1, pointer (some ⟨d, 0, none⟩)), (2, pointer (some ⟨f, 0, none⟩)), (4, int .i64 j), (5, int .i64 m)] r → Hp l (bx d [slice h b.length i] 133 :: bx f [func (.func 174) [].toArray [].toArray] 186 :: k) w → o = B → I r [] w) ?_ j _ hC _ _ ⟨rfl, rfl, rfl, rfl, rfl, tv⟩ F rfl
 intro _ ih m o H r aZ a S ho
 rw [ho] at H; clear ho
 rw [a.eq]; clear a
 refine D _ _ _<|sQ fun a0 an=>sQ fun a1 ao=>bK H fun U hC H=>jc .normal S [(0, func (.yield yl) #[] #[]), (1, pointer (some ⟨d, 0, none⟩)), (2, pointer (some ⟨f, 0, none⟩)), (4, int .i64 j), (5, int .i64 m), (24, bool U)] ?_ fun _ a2 V=>?_
 refine have H:=hC;?_
 refine ie S jD (by kernel_rfl) ?_
 refine di (fun Gq w hGq Iq=>mv z aK) z z<|di (fun Gq w hGq Iq=>ld Iq 0 Ak z z z aK) z z<|di (fun Gq w hGq Iq=>q_len sd z aK) z z<|di (fun Gq w hGq Iq=>aN z z aK) z z<|di (fun Gq w hGq Iq=>mv z aK) z z<|dC (m < (b.length : Int)) (fun c=>?_) fun c=>?_
 refine yK c H fun H=>di (fun Gq w hGq Iq=>ld (hw:=gY z z z (bY c)) Iq 1 E5 z z z aK) z z<|di (fun Gq w hGq Iq=>ld (hw:=gY z z z (bY c)) Iq 0 Ak z z z aK) z z<|di (fun Gq w hGq Iq=>mv (hw:=gY z z z (bY c)) z aK) z z<|iK H fun⟨W, X⟩H=>?_
 obtain ⟨a4, a5, ap, ar, a6, au⟩ := Dat.get (Dat.mono A af) (0 : Int) (m) W X
 obtain rfl := ar
 refine di (fun Gq w hGq Iq=>bP (hw:=gY z z z (bY c)) jM z ap z W X aK) z z<|di (fun Gq w hGq Iq=>fO (hw:=gY z z z (bY c)) Iq p6 z (hGq.cel _ _ (au 0 _ z)) aK) z z<|bK H fun av aw H=>wk (vs := [int .u8 (b.getD (Int.toNat m) (0 : Int))]) (v := bool av) En z z (fun Gq w hGq Iq => ?_) ?_ (hw := gY z z z (lG c))
 refine Calls.mono (o9 aw Iq)<|?_
 rintro _ w2 ⟨I2, rfl⟩
 exact ⟨z, _, hGq, I2⟩
 refine di (fun Gq w hGq Iq=>bR (bY c) z aK) z z<|wz fun ay az L M=>?_
 cases H
 exact je ⟨z, z, z, z, z, z, tv⟩ (Hp.low L M)
 refine nK c H fun H=>wp (aF z z z (bN c) z)<|wp (aF z z z (bN c) z)<|wp (aF z z z (bN c) z)<|wp (aF z z z (bN c) z)<|wp (aF z z z (bN c) z)<|wp (aF z z z (bN c) z)<|di (fun Gq w hGq Iq=>b7 (bN c) z aK) z z<|wz fun ay az L M=>?_
 cases H
 exact je ⟨z, z, z, z, z, z, tv⟩ (Hp.low L M)
 refine ao _ _ _<|dC (U = true) (fun p=>?_) fun p=>?_
 exact yK p H fun H=>wt (vY p)<|ws<|an _ _ _<|wb<|ae<|mv z<|ba z z<|aj z<|nl<|ih _ _ H _ _ ⟨z, z, z, z, z, tv⟩ V z
 refine nK p H fun H=>wf (vN p)<|wx<|?_
 cases H
 exact ⟨z, z, ⟨z, z, z, z, z, tv⟩, V, tv⟩
 rintro e r ds a8 ⟨rfl, rfl, a, Y, _⟩
 rw [a.eq]; clear a
 refine am _ _ _<|sQ fun a9 aA=>sr fun bb aC=>mv z<|mv z<|cc z z<|mv z<|iJ H fun Z aD hC H=>?_
 refine l7 6 (K := fun e r ds w => e = .normal ∧ ∃ (q : List eP) (C : Gh), ds = [] ∧ l ≤ C ∧ Has [(0, func (.yield yl) #[] #[]), (1, pointer (some ⟨d, 0, none⟩)), (2, pointer (some ⟨f, 0, none⟩)), (4, int .i64 j), (5, int .i64 B), (36, bool Z)] r ∧ Hp C (bx d [slice h b.length i] 133 :: bx f [func (.func 174) [].toArray [].toArray] 186 :: q) w ∧ St aD C q ∧ True) ?_ ?_
 refine have H:=hC;dC (j < B) (fun g=>?_) fun g=>?_
 refine yK g H fun H=>mv (hw:=gY z z z (bY g)) z<|mv (hw:=gY z z z (bY g)) z<|mv (hw:=gY z z z (bY g)) z<|iJ H fun bc bd hx130 H=>vP (hw:=gY z z z (bY g)) hy [bx d [slice h b.length i] 133, bx f [func (.func 174) [].toArray [].toArray] 186] Y J z z ⟨_, _, z, ⟨_, z, z⟩, ⟨_, z, z⟩⟩ hx130 fun bf bh aE aG aH aI=>be (hw:=gY z z z (bY g)) z<|bR (bY g) z<|nl<|?_
 cases H
 exact ⟨z, aE, _, z, aG, ⟨z, z, z, z, z, z, tv⟩, aI, aH, tv⟩
 refine nK g H fun H=>Sk 5 z z (bN g) z<|b7 (bN g) z<|nl<|?_
 cases H
 exact ⟨z, k, _, z, gR, ⟨z, z, z, z, z, z, tv⟩, Y, J, tv⟩
 rintro e r ds bi ⟨rfl, q, C, rfl, aa, a, ab, ad, _⟩
 rw [a.eq]; clear a
 refine nl<|aC _ _ _<|dC (Z = true) (fun s=>?_) fun s=>?_
 refine yK s H fun H=>wt (vY s)<|wr<|?_
 cases H
 exact ⟨z, q, _, z, (gT A aa), trivial, ab, ad, tv⟩
 refine nK s H fun H=>wf (vN s)<|ws<|aA _ _ _<|ae<|mv z<|mv z<|rl z z<|aj z<|nl<|ak _ _ _<|ae<|mv z<|ba z z<|?_
 exact aj z<|nl<|ih _ _ _ H q _ _ _ (gT A aa) ⟨z, z, z, z, tv⟩ ab ad z
 refine nK n H fun H=>wf (bN n)<|wx<|?_
 cases H
 exact ⟨z, k, _, z, A, trivial, F, J, tv⟩
 rcases E with O | P
 rintro e r ds bj ⟨rfl, t, u, rfl, aJ, a, aL, aM, _⟩
 rw [a.eq]; clear a
 cases H
 exact ⟨.inr z, z, _, z, t, _, aJ, aL, aM, z⟩
 rintro e r ds bk ⟨rfl, x, y, rfl, aO, a, aP, aQ, _⟩
 rw [a.eq]; clear a
 cases H
 exact ⟨.inl z, z, _, z, x, _, aO, aP, aQ, z⟩
theorem kf {a1 a4 a17 d b f c g m G L w} (H : bH a1 a4 a17 = some m) (hI : Hp G (bx d [slice b f c] 44 :: gn G (Kd.int .i64) b [] a4 [] c 3 :: bx g [int .i64 a17] 3 :: L) w) (j : a4.length = f) (n : Mw b b ([] : List Int).length f c c 1) :
    Calls Tryz.prog 172 [int .i64 a1, pointer (some ⟨d, 0, none⟩), pointer (some ⟨g, 0, none⟩)].toArray w fun e w' => ∃ (G' : Gh), G ≤ G' ∧ Hp G' (bx d [slice b f c] 44 :: gn G' (Kd.int .i64) b [] a4 [] c 3 :: bx g [int .i64 a17] 3 :: L) w' ∧ e = .returned (int .i64 m) := by
 refine ac (N := 18) Tryz.func172 z z (Nat.le_of_ble_eq_true z)<|?_
 unfold bH at H
 refine sr fun E q=>aj z<|nl<|q _ _ _<|sQ fun F r=>sr fun I s=>mv z<|aN z z<|mv z<|bK H fun o hC H=>jS 5 G [(0, int .i64 a1), (1, pointer (some ⟨d, 0, none⟩)), (2, pointer (some ⟨g, 0, none⟩)), (12, bool o)] (bx d [slice b f c] 44 :: bx g [int .i64 a17] 3 :: gn G (Kd.int .i64) b [] a4 [] c 3 :: L) ?_ fun _ J h=>?_
 refine have H:=hC;dC (a1 < 0) (fun a=>?_) fun a=>?_
 refine yK a H fun H=>Sk 4 z z (bY a) z<|bR (bY a) z<|nl<|have t:=Hp.pick 3 [0, 2, 1] hI z;?_
 cases H
 exact je ⟨z, z, z, z, tv⟩ t
 refine nK a H fun H=>mv (hw:=gY z z z (bN a)) z<|ld (hw:=gY z z z (bN a)) hI 0 oO z z z<|pO (hw:=gY z z z (bN a)) lg z j<|gM (hw:=gY z z z (bN a)) z z<|b7 (bN a) z<|nl<|have u:=Hp.pick 3 [0, 2, 1] hI z;?_
 cases H
 exact je ⟨z, z, z, z, tv⟩ u
 refine nl<|s _ _ _<|dC (o = true) (fun i=>?_) fun i=>?_
 refine yK i H fun H=>wt (vY i)<|sr fun K x=>ld h 1 bv z z z<|aj z<|nl<|x _ _ _<|wr<|have y:=Hp.pick 3 [0, 2, 1] h z;?_
 cases H
 exact ⟨.inr z, z, _, ⟨_, _, z, z, z⟩, _, gR, y, z⟩
 refine nK i H fun H=>wf (vN i)<|ws<|r _ _ _<|sr fun M A=>ld h 0 oO z z z<|mv z<|iK H fun⟨k, B⟩H=>have l:=jK j B;?_
 obtain ⟨O, p⟩ := Mw.ad n k l
 refine bP dI z p z k l<|?_
 obtain ⟨_, rfl, _, C⟩ := Hp.rwGet h 2 rfl n j p (0 : Int) k l
 refine jH (v := int .i64 (a4.getD (Int.toNat a1) (0 : Int))) bv z (cell0 (C 0 _ z))<|aj z<|nl<|A _ _ _<|wr<|have D:=Hp.pick 3 [0, 2, 1] h z;?_
 cases H
 exact ⟨.inr z, z, _, ⟨_, _, z, z, z⟩, _, gR, D, z⟩
theorem od {a1 a f g j l b m h n G L w} (H : fN a1 a = some n) (hI : Hp G (gn G (Kd.int .i64) f g a1 j h 3 :: L) w) (p : a1.length = b) (C : Mw f l g.length b m h 1) :
    Calls Tryz.prog 175 [slice l b m, int .i64 a].toArray w fun e w' => ∃ (G' : Gh), G ≤ G' ∧ Hp G' (gn G' (Kd.int .i64) f g n j h 3 :: L) w' ∧ n.length = b ∧ e = .returned (tuple [].toArray) := by
 refine ac (N := 15) Tryz.func175 z z (Nat.le_of_ble_eq_true z)<|?_
 unfold fN at H
 refine sr fun af M=>mv z<|pO lg z p<|mv z<|nl<|M _ _ _<|wb<|bK H fun q hC H=>aq (Q := fun e r ds w => e = .exit 0 ∧ ∃ (s : Gh) (k : Gh), ds = [] ∧ G ≤ k ∧ Has [] r ∧ Hp k (gn s (Kd.int .i64) f g q j h 3 :: L) w ∧ q.length = b ∧ s ≤ k ∧ True) ?_ ?_
 refine aB fun I K=>?_
 refine ce.partial_correctness a1 a (fun t u o => ∀ (x : Gh) (c : Gh) (r : Rg) (w : World), G ≤ c → Has [(0, slice l b m), (1, int .i64 a), (6, int .i64 (a1.length : Int)), (7, int .i64 u)] r → Hp c (gn x (Kd.int .i64) f g t j h 3 :: L) w → t.length = b → x ≤ c → o = q → I r [] w) ?_ a1 0 _ hC G _ _ _ gR ⟨rfl, rfl, rfl, rfl, tv⟩ hI p gR rfl
 intro _ ih t u o H x c r ag D d E y F ho
 rw [ho] at H; clear ho
 rw [d.eq]; clear d
 refine K _ _ _<|sr fun ah O=>aN z z<|nl<|O _ _ _<|sQ fun ai P=>dC (u < (a1.length : Int)) (fun i=>?_) fun i=>?_
 refine yK i H fun H=>wt (bY i)<|ws<|P _ _ _<|sQ fun ak R=>wb<|sr fun al S=>mv z<|aj z<|nl<|S _ _ _<|ae<|mv z<|mv z<|?_
 refine mv z<|iK H fun⟨A, T⟩H=>have B:=jK p T;?_
 obtain ⟨am, J⟩ := Mw.ad C A B
 exact bP dI z J z A B<|jI (kd := (Kd.int .i64)) E 0 (v := int .i64 a) (news := [int .i64 a]) (0 : Int) a bv z C y J A B (add_zero' _) z z z z z (Nat.le_of_ble_eq_true z) gR (fun _ ho => dm ho z z) fun an U=>nl<|R _ _ _<|ae<|ba z z<|mv z<|nl<|have V:=Hp.rwUp U 0 z F;ih _ _ _ H c _ _ _ D ⟨z, z, z, z, tv⟩ V (cB y) gR z
 refine nK i H fun H=>wf (bN i)<|wx<|have W:=Hp.rwUp E 0 z F;?_
 cases H
 exact ⟨z, c, _, z, D, trivial, W, y, gR, tv⟩
 rintro e r ds ao ⟨rfl, s, k, rfl, X, d, Y, Z, aa, _⟩
 rw [d.eq]; clear d
 refine have ab:=Hp.rwUp Y 0 z aa;?_
 cases H
 exact ⟨.inl z, z, _, z, _, X, ab, Z, z⟩
theorem p5 {a1 a2 ai G L w} (H : dE a1 a2 = some ai) (hI : Hp G L w) :
    Calls Tryz.prog 147 [string a1, int .i64 a2].toArray w fun e w' => ∃ (Y : Option Addr) (ak : Nat) (Z : Nat) (G' : Gh), G ≤ G' ∧ Hp G' (gn G' (Kd.int .i64) Y [] ai [] Z 3 :: L) w' ∧ ai.length = ak ∧ Mw Y Y ([] : List Int).length ak Z Z 1 ∧ e = .returned (slice Y ak Z) := by
 refine iH (N := 59) Tryz.func147 z z (Nat.le_of_ble_eq_true z)<|?_
 unfold dE at H
 refine sr fun K3 a7=>io hI z z fun i cZ a8=>aj z<|nl<|a7 _ _ _<|sr fun K9 a9=>mv z<|cX fA z<|iK H fun⟨bb, bd, be⟩H=>yr (kd := (Kd.int .i64)) (z := (0 : Int)) a8 dI vI z z z z bb bd be fun d b c1 k bf=>aM bf ze44 fun m c2 bg=>fX bg 0 oO z z z z z z z fun c3 al=>nl<|a9 _ _ _<|?_
 refine sr fun c4 bh=>ld al 2 bv z z z<|aj z<|nl<|bh _ _ _<|sQ fun c5 bi=>sr fun c6 bj=>ld al 0 oO z z z<|pO lg z k<|mv z<|nl<|bj _ _ _<|wb<|bK H fun C hC H=>?_
 refine aq (Q := fun e r ds w => e = .exit 0 ∧ ∃ (am : Gh) (aa : Gh), ds = (List.map Go.LG.mark ([] : List Nat)) ∧ G ≤ aa ∧ Has [(0, string a1), (3, pointer (some ⟨i, 0, none⟩)), (5, pointer (some ⟨m, 0, none⟩))] r ∧ Hp aa (bx m [slice (some ⟨d, 0, none⟩) b b] 44 :: bx i [int .i64 a2] 3 :: gn am (Kd.int .i64) (some ⟨d, 0, none⟩) [] C [] b 3 :: (List.map uO ([] : List Nat) ++ L)) w ∧ C.length = b ∧ am ≤ aa ∧ True) ?_ ?_
 refine have bk:=Hp.pick 3 [0, 2, 1] al z;aB fun I a6=>?_
 refine bG.partial_correctness a1 (fun an D ab o => ∀ (ao : Gh) (p : Gh) (r : Rg) (w : World), G ≤ p → Has [(0, string a1), (3, pointer (some ⟨i, 0, none⟩)), (5, pointer (some ⟨m, 0, none⟩)), (6, int .i64 D), (18, int .i64 ((List.replicate (Int.toNat (a1.size : Int)) (0 : Int)).length : Int)), (19, int .i64 ab)] r → Hp p (bx m [slice (some ⟨d, 0, none⟩) b b] 44 :: bx i [int .i64 a2] 3 :: gn ao (Kd.int .i64) (some ⟨d, 0, none⟩) [] an [] b 3 :: (List.map uO ([] : List Nat) ++ L)) w → an.length = b → ao ≤ p → o = C → I r (List.map Go.LG.mark ([] : List Nat)) w) ?_ (List.replicate (Int.toNat (a1.size : Int)) (0 : Int)) a2 0 _ hC G _ _ _ gR ⟨rfl, rfl, rfl, rfl, rfl, rfl, tv⟩ bk k gR rfl
 intro _ ih an D ab o H ao p r c7 aG s aH t ac ho
 rw [ho] at H; clear ho
 rw [s.eq]; clear s
 refine a6 _ _ _<|sr fun c8 bl=>aN z z<|nl<|bl _ _ _<|sQ fun c9 bm=>dC (ab < ((List.replicate (Int.toNat (a1.size : Int)) (0 : Int)).length : Int)) (fun E=>?_) fun E=>?_
 refine yK E H fun H=>wt (bY E)<|ws<|bm _ _ _<|sQ fun da bn=>iJ H fun aI bo hC H=>?_
 refine aq (Q := fun e r ds w => e = .normal ∧ ∃ (ap : Gh) (F : Gh), ds = (List.map Go.LG.mark ([] : List Nat)) ∧ p ≤ F ∧ Has [(0, string a1), (3, pointer (some ⟨i, 0, none⟩)), (5, pointer (some ⟨m, 0, none⟩)), (6, int .i64 bo), (18, int .i64 ((List.replicate (Int.toNat (a1.size : Int)) (0 : Int)).length : Int)), (19, int .i64 ab)] r ∧ Hp F (bx m [slice (some ⟨d, 0, none⟩) b b] 44 :: bx i [int .i64 a2] 3 :: gn ap (Kd.int .i64) (some ⟨d, 0, none⟩) [] aI [] b 3 :: (List.map uO ([] : List Nat) ++ L)) w ∧ aI.length = b ∧ ap ≤ F ∧ True) ?_ ?_
 refine have H:=hC;wb<|sr fun db bp=>mv z<|aj z<|nl<|bp _ _ _<|sQ fun dc ar=>sr fun dd bq=>mv z<|mv z<|iK H fun⟨br, bs⟩H=>gc fA z z br bs z<|bK H fun aJ bt H=>?_
 refine cv we (fe bt aH) z z fun de B=>nl<|bq _ _ _<|wb<|sr fun df bu=>bA z z<|aj z<|nl<|bu _ _ _<|dC (aJ = 1) (fun J=>?_) fun J=>?_
 refine yK J H fun H=>wt (bY J)<|ae<|aj z<|nl<|ar _ _ _<|ae<|ld B 0 oO z z z<|mv z<|mv z<|iK H fun⟨au, bw⟩H=>have av:=jK k bw;?_
 obtain ⟨dg, aK⟩ := Mw.ad (Mw.new (α := Int) d b 1) au av
 refine bP dI z aK z au av<|jI (kd := (Kd.int .i64)) B 2 (v := int .i64 0) (news := [int .i64 0]) (0 : Int) 0 bv z (Mw.new (α := Int) d b 1) t aK au av (add_zero' _) z z z z z (Nat.le_of_ble_eq_true z) gR (fun _ ho => dm ho z z) fun dh bz=>nl<|have bB:=Hp.rwUp bz 2 z ac;?_
 cases H
 exact ⟨z, p, _, z, gR, ⟨z, z, z, z, z, z, tv⟩, bB, (cB t), gR, tv⟩
 refine nK J H fun H=>wf (bN J)<|sr fun di bC=>bA z z<|aj z<|nl<|bC _ _ _<|dC (aJ = 2) (fun O=>?_) fun O=>?_
 refine yK O H fun H=>wt (bY O)<|ae<|aj z<|nl<|ar _ _ _<|ae<|ld B 0 oO z z z<|mv z<|mv z<|iK H fun⟨aw, bD⟩H=>have ay:=jK k bD;?_
 obtain ⟨dj, aL⟩ := Mw.ad (Mw.new (α := Int) d b 1) aw ay
 refine bP dI z aL z aw ay<|jI (kd := (Kd.int .i64)) B 2 (v := int .i64 1) (news := [int .i64 1]) (0 : Int) 1 bv z (Mw.new (α := Int) d b 1) t aL aw ay (add_zero' _) z z z z z (Nat.le_of_ble_eq_true z) gR (fun _ ho => dm ho z z) fun dk bE=>nl<|have bF:=Hp.rwUp bE 2 z ac;?_
 cases H
 exact ⟨z, p, _, z, gR, ⟨z, z, z, z, z, z, tv⟩, bF, (cB t), gR, tv⟩
 refine nK O H fun H=>wf (bN O)<|ws<|ar _ _ _<|ae<|ld B 0 oO z z z<|mv z<|mv z<|iK H fun⟨az, bH⟩H=>have aA:=jK k bH;?_
 obtain ⟨dn, aO⟩ := Mw.ad (Mw.new (α := Int) d b 1) az aA
 refine bP dI z aO z az aA<|jI (kd := (Kd.int .i64)) B 2 (v := int .i64 D) (news := [int .i64 D]) (0 : Int) D bv z (Mw.new (α := Int) d b 1) t aO az aA (add_zero' _) z z z z z (Nat.le_of_ble_eq_true z) gR (fun _ ho => dm ho z z) fun dp bI=>nl<|have bJ:=Hp.rwUp bI 2 z ac;?_
 cases H
 exact ⟨z, p, _, z, gR, ⟨z, z, z, z, z, z, tv⟩, bJ, (cB t), gR, tv⟩
 rintro e r ds dq ⟨rfl, ap, F, rfl, bL, s, bM, bO, bQ, _⟩
 rw [s.eq]; clear s
 exact bn _ _ _<|ae<|ba z z<|mv z<|nl<|have bR:=Hp.rwUp bM 2 z bQ;ih _ _ _ _ H F _ _ _ (gT aG bL) ⟨z, z, z, z, z, z, tv⟩ bR bO gR z
 refine nK E H fun H=>wf (bN E)<|wx<|have bS:=Hp.rwUp aH 2 z ac;?_
 cases H
 exact ⟨z, p, _, z, aG, ⟨z, z, z, tv⟩, bS, t, gR, tv⟩
 rintro e r ds dr ⟨rfl, am, aa, rfl, bT, s, bU, bV, bW, _⟩
 rw [s.eq]; clear s
 refine bi _ _ _<|sr fun dt bX=>qG (vs := []) (us := [pointer (some ⟨m, 0, none⟩), pointer (some ⟨i, 0, none⟩)]) z z<|aM bU Ep fun aC du bZ=>fX bZ 0 AL z z z z z z z fun dv b0=>nl<|bX _ _ _<|sQ fun dw b1=>sr fun dx b2=>mv z<|D2 b0 fA jM Az z fun b3 b4 dy dz aP b5 b6 b7=>bK H fun aQ b8 H=>fU (vs := [slice b3 (gb a1).length b4, func (.func 174) [].toArray [].toArray]) Ev z z (o5 (a1 := gb a1) b8 b7 b5 b6)<|?_
 rintro _ dA ⟨aR, aS, aT, aU, aD, aV, b9, ca, cb, rfl⟩
 refine ⟨_, rfl, ?_⟩
 refine nl<|b2 _ _ _<|wb<|have cc:=Hp.rwUp b9 5 z (gT bW (gT aP aV));iJ H fun q cd ce H=>mj cc ET z fun fn tmps gl aE dB cf aW=>?_
 have cg : Yl Tryz.prog (j5 (fun (u : (List Int)) (x : Int × Int) => bc a1 a2 u x.1 x.2)) (vi (enc1 (Kd.int .i64)) (enc1 (Kd.int .i64))) _ gl := ni (pp := [39, 40]) (gdd := aE) aW (fun (u : (List Int)) (x : Int × Int) => bc a1 a2 u x.1 x.2) [] (fun (u : (List Int)) (G' : Gh) (K : List eP) => ∃ (y : Gh) (_ : aD ≤ G'), K = bx aC [func (.func 172) [].toArray [pointer (some ⟨m, 0, none⟩), pointer (some ⟨i, 0, none⟩)].toArray] 221 :: bx m [slice (some ⟨d, 0, none⟩) b b] 44 :: bx i [int .i64 a2] 3 :: gn y (Kd.int .i64) (some ⟨d, 0, none⟩) [] u [] b 3 :: (List.map uO (aE :: ([] : List Nat)) ++ L) ∧ u.length = b ∧ y ≤ G' ∧ True) cf (fun _ _ _ h => (fun h => rQ (fun h => nt h) (fun h => nt h) h) h) (fun hG' ⟨y, ch, hK', f, P, _⟩ => ⟨y, gT ch hG', hK', f, (gT P hG'), tv⟩) (by
 rintro Rd Bs q u' ⟨g, n⟩ jo' dD K M dF vs ⟨y, aX, rfl, f, P, _⟩ ⟨_, _, rfl, ⟨_, rfl, ci⟩, ⟨_, rfl, cj⟩⟩ H ck
 cases ci
 cases cj
 replace H : bc a1 a2 q g n = some (u', jo') := H
 unfold bc at H
 refine sr fun dG cl=>aj z<|nl<|cl _ _ _<|ae<|aj z<|nl<|?_
 refine ⟨rfl, rfl, _, _, gR, ck, fun dH aF => ?_⟩
 refine wb<|sr fun dJ cm=>ld aF 3 bv z z z<|aj z<|nl<|cm _ _ _<|sQ fun dK aY=>sr fun dL cn=>ld aF 1 AL z z z<|mv z<|dl z z<|have co:=Hp.rwUp aF 4 z P;have cp:=Hp.pick 5 [2, 4, 3, 0, 1] co z;bK H fun aZ cq H=>?_
 refine fU (vs := [int .i64 (ax (g - 1)), pointer (some ⟨m, 0, none⟩), pointer (some ⟨i, 0, none⟩)]) CL z z (kf cq cp f (Mw.new (α := Int) d b 1))<|?_
 rintro _ dM ⟨dN, af, a0, rfl⟩
 refine ⟨_, rfl, ?_⟩
 refine aj z<|nl<|cn _ _ _<|sr fun dO cr=>mv z<|ld a0 4 AL z z z<|mv z<|bK H fun cs ct H=>fU (vs := [int .i64 n, pointer (some ⟨m, 0, none⟩), pointer (some ⟨i, 0, none⟩)]) CL z z (kf ct a0 f (Mw.new (α := Int) d b 1))<|?_
 rintro _ dP ⟨dQ, ag, ah, rfl⟩
 refine ⟨_, rfl, ?_⟩
 refine bA z z<|nl<|cr _ _ _<|dC (aZ = cs) (fun R=>?_) fun R=>?_
 refine yK R H fun H=>wt (bY R)<|ae<|mv z<|aj z<|nl<|aY _ _ _<|ae<|ld ah 0 oO z z z<|mv z<|mv z<|iK H fun⟨S, T, U⟩H=>Cs (l := g) (h := n) dI z (.inr ⟨_, z, z⟩) (.inr ⟨_, z, z⟩) (Mw.new (α := Int) d b 1).le S T (Db k U)<|mv z<|?_
 refine have cu:=Hp.rwRe ah 1 z (xI q [] [] S T (te f k U));have cw:=Hp.pick 5 [1, 0, 2, 3, 4] cu z;bK H fun cx cy H=>fU (vs := [slice (if b = Int.toNat g then (some ⟨d, 0, none⟩) else Option.map (fun a => Addr.add a (Int.toNat g * 1)) (some ⟨d, 0, none⟩)) (Int.toNat n - Int.toNat g) (b - Int.toNat g), int .i64 aZ]) CF z z (od (a1 := fk q g n) cy cw (ve S T (te f k U)) (Mw.win (kd := (Kd.int .i64)) (A := (some ⟨d, 0, none⟩)) (c := b) (pre := []) (Mw.new (α := Int) d b 1) f S T (te f k U)))<|?_
 rintro _ dR ⟨cz, a3, cA, cC, rfl⟩
 refine ⟨_, rfl, ?_⟩
 refine have cD:=Hp.rwRe cA 0 z (tK q [] [] cx g n);nl<|have cE:=Hp.pick 5 [3, 4, 1, 2, 0] cD z;?_
 cases H
 exact ⟨z, _, _, (gT (gT af ag) a3), ⟨cz, (gT (gT (gT aX af) ag) a3), z, (ss f S T (te f k U) cC), gR, tv⟩, cE⟩
 refine nK R H fun H=>wf (bN R)<|ws<|aY _ _ _<|ae<|ld ah 0 oO z z z<|mv z<|mv z<|iK H fun⟨V, W, X⟩H=>Cs (l := g) (h := n) dI z (.inr ⟨_, z, z⟩) (.inr ⟨_, z, z⟩) (Mw.new (α := Int) d b 1).le V W (Db k X)<|mv z<|have cF:=Hp.rwRe ah 1 z (xI q [] [] V W (te f k X));have cG:=Hp.pick 5 [1, 0, 2, 3, 4] cF z;bK H fun cH cI H=>?_
 refine fU (vs := [slice (if b = Int.toNat g then (some ⟨d, 0, none⟩) else Option.map (fun a => Addr.add a (Int.toNat g * 1)) (some ⟨d, 0, none⟩)) (Int.toNat n - Int.toNat g) (b - Int.toNat g), int .i64 a2]) CF z z (od (a1 := fk q g n) cI cG (ve V W (te f k X)) (Mw.win (kd := (Kd.int .i64)) (A := (some ⟨d, 0, none⟩)) (c := b) (pre := []) (Mw.new (α := Int) d b 1) f V W (te f k X)))<|?_
 rintro _ dS ⟨cJ, a4, cK, cL, rfl⟩
 refine ⟨_, rfl, ?_⟩
 refine have cM:=Hp.rwRe cK 0 z (tK q [] [] cH g n);nl<|have cN:=Hp.pick 5 [3, 4, 1, 2, 0] cM z;?_
 cases H
 exact ⟨z, _, _, (gT (gT af ag) a4), ⟨cJ, (gT (gT (gT aX af) ag) a4), z, (ss f V W (te f k X) cL), gR, tv⟩, cN⟩)
 refine have cO:=Hp.sink (A := [bx aR [slice aS aQ.length aT] 133, bx aU [func (.func 174) [].toArray [].toArray] 186]) (K := [bx aC [func (.func 172) [].toArray [pointer (some ⟨m, 0, none⟩), pointer (some ⟨i, 0, none⟩)].toArray] 221, bx m [slice (some ⟨d, 0, none⟩) b b] 44, bx i [int .i64 a2] 3, gn aD (Kd.int .i64) (some ⟨d, 0, none⟩) [] C [] b 3]) aW;(ot (sy := (C, none)) ce cO ca cb cg ⟨_, z, aD, Gh.le_refl _, z, bV, gR, tv⟩).mono<|?_
 rintro _ dT ⟨dU, cP, dV, cQ, ⟨K, rfl, y, cR, rfl, f, P, _⟩, rfl⟩
 refine have cS:=Hp.front cQ 2 z;?_
 rcases cd with _ | j
 refine ⟨_, rfl, LoopState.ready, none, cP, _, (fun h => nomatch h), cS, fun dW a5 => ?_⟩
 refine b1 _ _ _<|sr fun dX cT=>ld a5 3 oO z z z<|aj z<|nl<|cT _ _ _<|wr<|?_
 refine ⟨.inr rfl, (aE :: ([] : List Nat)), _, _, rfl, Hp.marks (K := [bx aR [slice aS aQ.length aT] 133, bx aU [func (.func 174) [].toArray [].toArray] 186, bx aC [func (.func 172) [].toArray [pointer (some ⟨m, 0, none⟩), pointer (some ⟨i, 0, none⟩)].toArray] 221, bx m [slice (some ⟨d, 0, none⟩) b b] 44, bx i [int .i64 a2] 3, gn y (Kd.int .i64) (some ⟨d, 0, none⟩) [] q [] b 3]) a5, fun dY cU => ?_⟩
 refine have cV:=Hp.rwUp cU 5 z P;have cW:=Hp.pick 6 [5] cV z;?_
 cases H
 exact ⟨_, ⟨_, _, z, z, z⟩, (some ⟨d, 0, none⟩), b, b, _, (gT (gT (gT bT aP) aV) cR), cW, f, (Mw.new (α := Int) d b 1), z⟩
 cases H
theorem sJ {a1 a2 B W G L w} (H : iw a1 a2 = some (B, W)) (hI : Hp G L w) :
    Calls Tryz.prog 116 [string a1, int .i64 a2].toArray w fun e w' => ∃ (u : Option Addr) (C : Nat) (x : Nat) (G' : Gh), G ≤ G' ∧ Hp G' (gn G' (Kd.int .i64) u [] B [] x 3 :: L) w' ∧ B.length = C ∧ Mw u u ([] : List Int).length C x x 1 ∧ e = .returned (tuple [slice u C x, int .i64 W].toArray) := by
 refine ac (N := 49) Tryz.func116 z z (Nat.le_of_ble_eq_true z)<|?_
 unfold iw at H
 refine sr fun K3 ak=>aj z<|aj z<|nl<|ak _ _ _<|sQ fun K5 al=>sr fun K7 am=>mv z<|mv z<|bK H fun an ao H=>cv DK (sl ao hI) z z fun bp X=>be z<|nl<|am _ _ _<|?_
 refine dC ((!an) = true) (fun n=>?_) fun n=>?_
 refine yK n H fun H=>wt (vY n)<|sr fun bq ap=>aj z<|aj z<|nl<|ap _ _ _<|wr<|have ar:=Hp.emp X;?_
 cases H
 exact ⟨.inr z, z, _, ⟨_, _, z, z, ⟨_, _, z, z, z⟩⟩, none, 0, 0, _, gR, ar, z, ⟨.inl z, Nat.le_refl _⟩, z⟩
 refine nK n H fun H=>wf (vN n)<|ws<|al _ _ _<|sr fun br au=>tx (vs := [(0, int .i64 0), (1, int .i64 1)]) (cs := [int .i64 0, int .i64 1]) CX BG z z<|tx (vs := [(0, int .i64 2), (1, int .i64 1)]) (cs := [int .i64 2, int .i64 1]) CX BG z z<|tx (vs := [(0, agg [int .i64 0, int .i64 1].toArray), (1, agg [int .i64 2, int .i64 1].toArray)]) (cs := [int .i64 0, int .i64 1, int .i64 2, int .i64 1]) CI CS z z<|aM X CI fun g bs av=>?_
 have aw : Hp G (bx g (List.map (int .i64) (List.replicate 4 0 : List Int)) 207 :: L) _ := av
 refine fX aw 0 E4 z z z z z z z fun bt ax=>?_
 have ay : Hp G (bx g (List.map (int .i64) ([0, 1, 2, 1] : List Int)) 207 :: L) _ := ax
 refine nl<|au _ _ _<|sr fun bu az=>mv z<|mv z<|bK H fun l aA H=>fU (vs := [string a1, int .i64 a2]) Ek z z (p5 aA ay)<|?_
 rintro _ bw ⟨b, c, d, D, aC, aD, p, k, rfl⟩
 refine ⟨_, rfl, ?_⟩
 refine aj z<|nl<|az _ _ _<|sQ fun bz aE=>sr fun bB aF=>mv z<|pO lg z p<|mv z<|nl<|aF _ _ _<|wb<|bK H fun E hC H=>aq (Q := fun e r ds w => e = .exit 0 ∧ ∃ (F : Gh) (y : Gh), ds = [] ∧ D ≤ y ∧ Has [(7, slice b c d)] r ∧ Hp y (gn F (Kd.int .i64) b [] E [] d 3 :: bx g (List.map (int .i64) ([0, 1, 2, 1] : List Int)) 207 :: L) w ∧ E.length = c ∧ F ≤ y ∧ True) ?_ ?_
 refine aB fun I ai=>?_
 refine b9.partial_correctness a1 a2 l (fun h a o => ∀ (J : Gh) (j : Gh) (r : Rg) (w : World), D ≤ j → Has [(0, string a1), (1, int .i64 a2), (6, pointer (some ⟨g, 0, none⟩)), (7, slice b c d), (20, slice b c d), (21, int .i64 (l.length : Int)), (22, int .i64 a)] r → Hp j (gn J (Kd.int .i64) b [] h [] d 3 :: bx g (List.map (int .i64) ([0, 1, 2, 1] : List Int)) 207 :: L) w → h.length = c → J ≤ j → o = E → I r [] w) ?_ l 0 _ hC D _ _ _ gR ⟨rfl, rfl, rfl, rfl, rfl, rfl, rfl, tv⟩ aD p gR rfl
 intro _ ih h a o H J j r bC Y i A m K ho
 rw [ho] at H; clear ho
 rw [i.eq]; clear i
 refine ai _ _ _<|sr fun bD aG=>aN z z<|nl<|aG _ _ _<|sQ fun bE aH=>dC (a < (l.length : Int)) (fun q=>?_) fun q=>?_
 refine yK q H fun H=>wt (bY q)<|ws<|aH _ _ _<|sQ fun bF aI=>bK H fun Z hC H=>?_
 refine aq (Q := fun e r ds w => e = .normal ∧ ∃ (M : Gh) (s : Gh), ds = [] ∧ j ≤ s ∧ Has [(0, string a1), (1, int .i64 a2), (6, pointer (some ⟨g, 0, none⟩)), (7, slice b c d), (20, slice b c d), (21, int .i64 (l.length : Int)), (22, int .i64 a)] r ∧ Hp s (gn M (Kd.int .i64) b [] Z [] d 3 :: bx g (List.map (int .i64) ([0, 1, 2, 1] : List Int)) 207 :: L) w ∧ Z.length = c ∧ M ≤ s ∧ True) ?_ ?_
 refine have H:=hC;wb<|sr fun bG aJ=>mv z<|iK H fun⟨O, aK⟩H=>have P:=jK p aK;?_
 obtain ⟨bH, aa⟩ := Mw.ad k O P
 refine bP dI z aa z O P<|?_
 obtain ⟨_, rfl, _, aL⟩ := Hp.rwGet A 0 rfl k m aa (0 : Int) O P
 refine jH (v := int .i64 (h.getD (Int.toNat a) (0 : Int))) bv z (cell0 (aL 0 _ z))<|aj z<|aj z<|nl<|aJ _ _ _<|sr fun bI aO=>mv z<|mv z<|mv z<|mv z<|iK H fun⟨aP, aQ⟩H=>?_
 have aR : 0 + Int.toNat a2 * 2 + 2 ≤ 4 := by omega
 refine C2 (a' := ⟨g, 0 + Int.toNat a2 * 2, none⟩) CS z z aP aQ (add_plain _ _ _)<|iK H fun⟨aS, aT⟩H=>?_
 have aU : 0 + Int.toNat a2 * 2 + Int.toNat (h.getD (Int.toNat a) (0 : Int)) * 1 + 1 ≤ 4 := by have := aR; omega
 refine C2 (a' := ⟨g, 0 + Int.toNat a2 * 2 + Int.toNat (h.getD (Int.toNat a) (0 : Int)) * 1, none⟩) BG z z aS aT (add_plain _ _ _)<|Er (int .i64) A 1 0 bv z z z (Nat.lt_of_succ_le aU)<|iK H fun⟨R, aV⟩H=>have S:=jK p aV;?_
 obtain ⟨bJ, ab⟩ := Mw.ad k R S
 refine bP dI z ab z R S<|jI (kd := (Kd.int .i64)) A 0 (v := int .i64 (([0, 1, 2, 1] : List Int).getD (0 + Int.toNat a2 * 2 + Int.toNat (h.getD (Int.toNat a) (0 : Int)) * 1) 0)) (news := [int .i64 (([0, 1, 2, 1] : List Int).getD (0 + Int.toNat a2 * 2 + Int.toNat (h.getD (Int.toNat a) (0 : Int)) * 1) 0)]) (0 : Int) (([0, 1, 2, 1] : List Int).getD (0 + Int.toNat a2 * 2 + Int.toNat (h.getD (Int.toNat a) (0 : Int)) * 1) 0) bv z k m ab R S (add_zero' _) z z z z z (Nat.le_of_ble_eq_true z) gR (fun _ ho => dm ho z z) fun bL T=>nl<|aO _ _ _<|sr fun bM aW=>mv z<|bA z z<|mv z<|bK H fun af hC H=>js 6 T [(0, string a1), (1, int .i64 a2), (6, pointer (some ⟨g, 0, none⟩)), (7, slice b c d), (8, int .i64 a), (20, slice b c d), (21, int .i64 (l.length : Int)), (22, int .i64 a), (43, bool af)] ?_ fun _ bO ag=>?_
 refine have H:=hC;dC ((h.getD (Int.toNat a) (0 : Int)) = 1) (fun f=>?_) fun f=>?_
 refine yK f H fun H=>mv (hw:=gY z z z (bY f)) z<|mv (hw:=gY z z z (bY f)) z<|iK H fun⟨aX, aY⟩H=>gc (hw:=gY z z z (bY f)) fA z z aX aY z<|bK H fun bQ aZ H=>cv (hw:=gY z z z (bY f)) we (fe aZ T) z z fun bS a0=>bA (hw:=gY z z z (bY f)) z z<|bR (bY f) z<|nl<|?_
 cases H
 exact je ⟨z, z, z, z, z, z, z, z, z, tv⟩ a0
 refine nK f H fun H=>Sk 5 z z (bN f) z<|b7 (bN f) z<|nl<|?_
 cases H
 exact je ⟨z, z, z, z, z, z, z, z, z, tv⟩ T
 refine nl<|aW _ _ _<|dC (af = true) (fun t=>?_) fun t=>?_
 refine yK t H fun H=>wt (vY t)<|ae<|mv z<|mv z<|iK H fun⟨U, a3⟩H=>have V:=jK p a3;?_
 obtain ⟨bT, ah⟩ := Mw.ad k U V
 refine bP dI z ah z U V<|jI (kd := (Kd.int .i64)) ag 0 (v := int .i64 2) (news := [int .i64 2]) (0 : Int) 2 bv z k (cB m) ah U V (add_zero' _) z z z z z (Nat.le_of_ble_eq_true z) gR (fun _ ho => dm ho z z) fun bU a4=>nl<|have a5:=Hp.rwUp a4 0 z K;?_
 cases H
 exact ⟨z, j, _, z, gR, ⟨z, z, z, z, z, z, z, tv⟩, a5, (cB (cB m)), gR, tv⟩
 refine nK t H fun H=>wf (vN t)<|ws<|have a6:=Hp.rwUp ag 0 z K;?_
 cases H
 exact ⟨z, j, _, z, gR, ⟨z, z, z, z, z, z, z, tv⟩, a6, (cB m), gR, tv⟩
 rintro e r ds bV ⟨rfl, M, s, rfl, a7, i, a8, a9, bb, _⟩
 rw [i.eq]; clear i
 exact aI _ _ _<|ae<|ba z z<|mv z<|nl<|have bc:=Hp.rwUp a8 0 z bb;ih _ _ _ H s _ _ _ (gT Y a7) ⟨z, z, z, z, z, z, z, tv⟩ bc a9 gR z
 refine nK q H fun H=>wf (bN q)<|wx<|have bd:=Hp.rwUp A 0 z K;?_
 cases H
 exact ⟨z, j, _, z, Y, ⟨z, tv⟩, bd, m, gR, tv⟩
 rintro e r ds bW ⟨rfl, F, y, rfl, bf, i, bg, bh, bi, _⟩
 rw [i.eq]; clear i
 refine aE _ _ _<|sr fun bX bj=>mv z<|aj z<|aj z<|nl<|bj _ _ _<|wr<|have bk:=Hp.rwUp bg 0 z bi;have bl:=Hp.pick 2 [0] bk z;?_
 cases H
 exact ⟨.inr z, z, _, ⟨_, _, z, z, ⟨_, _, z, z, z⟩⟩, b, c, d, _, (gT aC bf), bl, bh, k, z⟩
theorem oy {a1 g h m i c o j a k G L w} (H : de a1 = some (a, k)) (hI : Hp G (gn G (Kd.int .i64) g h a1 m j 3 :: L) w) (b : a1.length = c) (p : Mw g i h.length c o j 1) :
    Calls Tryz.prog 150 [slice i c o].toArray w fun e w' => ∃ (d : Option Addr) (f : Nat) (G' : Gh), G ≤ G' ∧ Hp G' (tk (slice d a.length f) 1 3 :: gn G' (Kd.int .i64) g h k m j 3 :: L) w' ∧ a.length ≤ f ∧ Dat (Kd.int .i64) G' d a ∧ Own d f ∧ k.length = c ∧ e = .returned (slice d a.length f) := by
 refine ac (N := 8) Tryz.func150 z z (Nat.le_of_ble_eq_true z)<|?_
 unfold de at H
 refine sr fun Q t=>aj z<|nl<|t _ _ _<|sQ fun R v=>sr fun S q=>mv z<|?_
 rcases i with _ | T
 obtain rfl : a1 = [] := Mw.nil p b
 rw [show (if ([] : List Int).length + ([] : List Int).length ≤ 17592186044416 then some (([] : List Int) ++ ([] : List Int), ([] : List Int)) else none) = some (([] : List Int), ([] : List Int)) from by simp] at H
 refine uC lg z z<|nl<|q _ _ _<|wt z<|sr fun U x=>aj z<|nl<|x _ _ _<|wr<|have y:=Hp.emp hI;?_
 cases H
 exact ⟨.inr z, z, _, ⟨_, _, z, z, z⟩, none, 0, _, gR, y, (show ([] : List Int).length ≤ 0 from Nat.le_refl 0), (Dat.nil _ _ _), Own.nil, b, z⟩
 refine uy lg z z<|nl<|q _ _ _<|wf z<|ws<|v _ _ _<|sr fun V A=>?_
 refine mm hI (vs := []) (cs := []) dI vI rfl (by decide) rfl rfl (fun W X B => ?_)
 obtain ⟨Y, l, r, C⟩ := Hp.publish (xs := ([] : List Int)) (n := 0) (Kd.int .i64) B rfl rfl
 refine mv z<|?_
 obtain ⟨Z, D, E⟩ := Dg (u := 44) r 1 lg rfl p b
 refine iK H fun aa H=>?_
 refine lu (xs := ([] : List Int)) (ys := a1) (Kd.int .i64) r 0 dI vI rfl rfl rfl rfl (Own.mk _ _ _) (show ([] : List Int).length ≤ 0 from Nat.le_of_ble_eq_true rfl) C D (Flat.mono l E) (Eq.symm b) (by (try simp only [List.length_cons, List.length_nil]); omega) (by (try simp only [List.length_cons, List.length_nil]); omega) (fun F I ab ad s J K M O => ?_)
 refine aj z<|nl<|A _ _ _<|wr<|have P:=Hp.rwUp O 1 z (gT l s);?_
 cases H
 exact ⟨.inr z, z, _, ⟨_, _, z, z, z⟩, F, I, _, (gT l s), P, K, M, J, b, z⟩
theorem pw {a1 a f g h b i j c d G L w} (H : gw a1 a f = some d) (hI : Hp G (bx b [slice i a.length j] 44 :: bx c [int .i64 f] 3 :: L) w) (q : a1.length ≤ h) (r : Dat (Kd.int .i64) G g a1) (y : a.length ≤ j) (A : Dat (Kd.int .i64) G i a) :
    Calls Tryz.prog 149 [slice g a1.length h, func (.func 148) [].toArray [pointer (some ⟨b, 0, none⟩), pointer (some ⟨c, 0, none⟩)].toArray].toArray w fun e w' => ∃ (k : Nat) (l : Option Addr) (m : Nat) (n : Nat) (G' : Gh), G ≤ G' ∧ Hp G' (bx k [slice l d.length m] 44 :: bx n [func (.func 148) [].toArray [pointer (some ⟨b, 0, none⟩), pointer (some ⟨c, 0, none⟩)].toArray] 75 :: bx b [slice i a.length j] 44 :: bx c [int .i64 f] 3 :: L) w' ∧ d.length ≤ m ∧ Dat (Kd.int .i64) G' l d ∧ e = .returned (func (.func 176) [].toArray [pointer (some ⟨k, 0, none⟩), pointer (some ⟨n, 0, none⟩)].toArray) := by
 refine ac (N := 6) Tryz.func149 z z (Nat.le_of_ble_eq_true z)<|?_
 unfold gw at H
 refine sr fun B s=>io hI z z fun o C t=>io t z z fun p D u=>aj z<|nl<|s _ _ _<|sr fun E v=>qG (vs := []) (us := [pointer (some ⟨o, 0, none⟩), pointer (some ⟨p, 0, none⟩)]) z z<|aj z<|nl<|v _ _ _<|wr<|have x:=Hp.pick 4 [1, 0, 2, 3] u z;?_
 cases H
 exact ⟨.inr z, z, _, ⟨_, _, z, z, z⟩, o, g, h, p, _, gR, x, q, r, z⟩
theorem qF {a1 a4 b c d f g h G L w} (H : iM a1 a4 b = some h) (hI : Hp G (bx c [slice d a4.length f] 44 :: bx g [int .i64 b] 3 :: L) w) (q : a4.length ≤ f) (k : Dat (Kd.int .i64) G d a4) :
    Calls Tryz.prog 148 [int .i64 a1, pointer (some ⟨c, 0, none⟩), pointer (some ⟨g, 0, none⟩)].toArray w fun e w' => Hp G (bx c [slice d a4.length f] 44 :: bx g [int .i64 b] 3 :: L) w' ∧ e = .returned (bool h) := by
 refine ac (N := 11) Tryz.func148 z z (Nat.le_of_ble_eq_true z)<|?_
 unfold iM at H
 refine sr fun r l=>aj z<|nl<|l _ _ _<|sQ fun s m=>?_
 refine kZ jD (by kernel_rfl) ?_
 refine have a:=hI.drew;wq (ld a 0 oO z z z aK) z<|wq (mv z aK) z<|iK H fun⟨i, j⟩H=>?_
 obtain ⟨t, u, n, o, v, p⟩ := Dat.get k (0 : Int) (a1) i j
 obtain rfl := o
 refine wq (bP dI z n z i j aK) z<|wq (fO a bv z (gR.cel _ _ (p 0 _ z)) aK) z<|wq (ld a 1 bv z z z aK) z<|wq (gM z z aK) z<|wq (aj z aK) z<|ed<|m _ _ _<|wr<|?_
 cases H
 exact rt ⟨_, _, z, z, z⟩ a
theorem oH {σ : Type} {St : σ → Gh → List eP → Prop} {yl} {φ : σ → (Int × Int) → Option (σ × Bool)} {sy : σ} {d i j g l m h a n p b} {ry : σ} {G T w} (H : et φ sy d i j = some ry) (hI : Hp G (bx g [slice l d.length m] 44 :: bx h [func (.func 148) [].toArray [pointer (some ⟨a, 0, none⟩), pointer (some ⟨b, 0, none⟩)].toArray] 75 :: bx a [slice n i.length p] 44 :: bx b [int .i64 j] 3 :: T) w) (a2 : d.length ≤ m) (am : Dat (Kd.int .i64) G l d) (an : i.length ≤ p) (ao : Dat (Kd.int .i64) G n i) (hy : Yl Tryz.prog φ (vi (enc1 (Kd.int .i64)) (enc1 (Kd.int .i64))) St yl) (hS : St sy G T) :
    Calls Tryz.prog 176 [func (.yield yl) #[] #[], pointer (some ⟨g, 0, none⟩), pointer (some ⟨h, 0, none⟩)].toArray w fun e w' => ∃ (T' : List eP) (G' : Gh), G ≤ G' ∧ Hp G' (bx g [slice l d.length m] 44 :: bx h [func (.func 148) [].toArray [pointer (some ⟨a, 0, none⟩), pointer (some ⟨b, 0, none⟩)].toArray] 75 :: bx a [slice n i.length p] 44 :: bx b [int .i64 j] 3 :: T') w' ∧ St ry G' T' ∧ e = .returned (tuple [].toArray) := by
 refine ac (N := 40) Tryz.func176 z z (Nat.le_of_ble_eq_true z)<|?_
 unfold et at H
 refine sr fun a4 ap=>aj z<|nl<|ap _ _ _<|wb<|bK H fun P hC H=>?_
 refine aq (Q := fun e r ds w => match (generalizing := false) P with | (Sum.inl W) => e = .ret ∧ ∃ (D : List eP) (E : Gh), ds = [] ∧ G ≤ E ∧ Has [] r ∧ Hp E (bx g [slice l d.length m] 44 :: bx h [func (.func 148) [].toArray [pointer (some ⟨a, 0, none⟩), pointer (some ⟨b, 0, none⟩)].toArray] 75 :: bx a [slice n i.length p] 44 :: bx b [int .i64 j] 3 :: D) w ∧ St W E D ∧ True | (Sum.inr X) => e = .exit 0 ∧ ∃ (F : List eP) (J : Gh), ds = [] ∧ G ≤ J ∧ Has [] r ∧ Hp J (bx g [slice l d.length m] 44 :: bx h [func (.func 148) [].toArray [pointer (some ⟨a, 0, none⟩), pointer (some ⟨b, 0, none⟩)].toArray] 75 :: bx a [slice n i.length p] 44 :: bx b [int .i64 j] 3 :: F) w ∧ St X J F ∧ True) ?_ ?_
 refine aB fun I O=>?_
 refine aZ.partial_correctness φ d i j (fun q Y o => ∀ (s : List eP) (t : Gh) (r : Rg) (w : World), G ≤ t → Has [(0, func (.yield yl) #[] #[]), (1, pointer (some ⟨g, 0, none⟩)), (2, pointer (some ⟨h, 0, none⟩)), (4, int .i64 q)] r → Hp t (bx g [slice l d.length m] 44 :: bx h [func (.func 148) [].toArray [pointer (some ⟨a, 0, none⟩), pointer (some ⟨b, 0, none⟩)].toArray] 75 :: bx a [slice n i.length p] 44 :: bx b [int .i64 j] 3 :: s) w → St Y t s → o = P → I r [] w) ?_ 0 sy _ hC T _ _ _ gR ⟨rfl, rfl, rfl, rfl, tv⟩ hI hS rfl
 intro _ ih q Y o H s t r a5 x c R S ho
 rw [ho] at H; clear ho
 rw [c.eq]; clear c
 refine O _ _ _<|sQ fun a6 ar=>sr fun a7 au=>mv z<|ld R 0 oO z z z<|q_len lg z<|aN z z<|nl<|au _ _ _<|dC (q < (d.length : Int)) (fun y=>?_) fun y=>?_
 refine yK y H fun H=>wt (bY y)<|ws<|ar _ _ _<|sQ fun a8 av=>wb<|sr fun a9 aw=>mv z<|aj z<|nl<|aw _ _ _<|sQ fun bb ax=>wb<|bK H fun L hC H=>?_
 refine aq (Q := fun e r ds w => e = .exit 2 ∧ ds = [] ∧ Has [(0, func (.yield yl) #[] #[]), (1, pointer (some ⟨g, 0, none⟩)), (2, pointer (some ⟨h, 0, none⟩)), (4, int .i64 q), (5, int .i64 L)] r ∧ Hp t (bx g [slice l d.length m] 44 :: bx h [func (.func 148) [].toArray [pointer (some ⟨a, 0, none⟩), pointer (some ⟨b, 0, none⟩)].toArray] 75 :: bx a [slice n i.length p] 44 :: bx b [int .i64 j] 3 :: s) w ∧ True) ?_ ?_
 refine aB fun I O=>?_
 refine bD.partial_correctness d i j (fun u o => ∀ (r : Rg) (w : World), Has [(0, func (.yield yl) #[] #[]), (1, pointer (some ⟨g, 0, none⟩)), (2, pointer (some ⟨h, 0, none⟩)), (4, int .i64 q), (5, int .i64 u)] r → Hp t (bx g [slice l d.length m] 44 :: bx h [func (.func 148) [].toArray [pointer (some ⟨a, 0, none⟩), pointer (some ⟨b, 0, none⟩)].toArray] 75 :: bx a [slice n i.length p] 44 :: bx b [int .i64 j] 3 :: s) w → o = L → I r [] w) ?_ q _ hC _ _ ⟨rfl, rfl, rfl, rfl, rfl, tv⟩ R rfl
 intro _ ih u o H r bc c Z ho
 rw [ho] at H; clear ho
 rw [c.eq]; clear c
 refine O _ _ _<|sQ fun bd ay=>sQ fun bf az=>bK H fun aa hC H=>jc .normal Z [(0, func (.yield yl) #[] #[]), (1, pointer (some ⟨g, 0, none⟩)), (2, pointer (some ⟨h, 0, none⟩)), (4, int .i64 q), (5, int .i64 u), (24, bool aa)] ?_ fun _ bg ab=>?_
 refine have H:=hC;?_
 refine ie Z jD (by kernel_rfl) ?_
 refine di (fun Gq w hGq Iq=>mv z aK) z z<|di (fun Gq w hGq Iq=>ld Iq 0 oO z z z aK) z z<|di (fun Gq w hGq Iq=>q_len lg z aK) z z<|di (fun Gq w hGq Iq=>aN z z aK) z z<|di (fun Gq w hGq Iq=>mv z aK) z z<|dC (u < (d.length : Int)) (fun f=>?_) fun f=>?_
 refine yK f H fun H=>di (fun Gq w hGq Iq=>ld (hw:=gY z z z (bY f)) Iq 1 ag75 z z z aK) z z<|di (fun Gq w hGq Iq=>ld (hw:=gY z z z (bY f)) Iq 0 oO z z z aK) z z<|di (fun Gq w hGq Iq=>mv (hw:=gY z z z (bY f)) z aK) z z<|iK H fun⟨ad, af⟩H=>?_
 obtain ⟨bh, bi, aA, aC, bj, aD⟩ := Dat.get (Dat.mono x am) (0 : Int) (u) ad af
 obtain rfl := aC
 refine di (fun Gq w hGq Iq=>bP (hw:=gY z z z (bY f)) dI z aA z ad af aK) z z<|di (fun Gq w hGq Iq=>fO (hw:=gY z z z (bY f)) Iq bv z (hGq.cel _ _ (aD 0 _ z)) aK) z z<|bK H fun aE aG H=>wk (vs := [int .i64 (d.getD (Int.toNat u) (0 : Int)), pointer (some ⟨a, 0, none⟩), pointer (some ⟨b, 0, none⟩)]) (v := bool aE) EK z z (fun Gq w hGq Iq => ?_) ?_ (hw := gY z z z (lG f))
 refine have aH:=Hp.pick 4 [2, 3, 0, 1] Iq z;Calls.mono (qF aG aH an (Dat.mono (gT x hGq) ao))<|?_
 rintro _ w2 ⟨I2, rfl⟩
 exact have aJ:=Hp.pick 4 [2, 3, 0, 1] I2 z;⟨z, _, hGq, aJ⟩
 refine di (fun Gq w hGq Iq=>bR (bY f) z aK) z z<|wz fun aL aM U V=>?_
 cases H
 exact je ⟨z, z, z, z, z, z, tv⟩ (Hp.low U V)
 refine nK f H fun H=>wp (aF z z z (bN f) z)<|wp (aF z z z (bN f) z)<|wp (aF z z z (bN f) z)<|wp (aF z z z (bN f) z)<|wp (aF z z z (bN f) z)<|wp (aF z z z (bN f) z)<|di (fun Gq w hGq Iq=>b7 (bN f) z aK) z z<|wz fun aL aM U V=>?_
 cases H
 exact je ⟨z, z, z, z, z, z, tv⟩ (Hp.low U V)
 refine az _ _ _<|dC (aa = true) (fun A=>?_) fun A=>?_
 exact yK A H fun H=>wt (vY A)<|ws<|ay _ _ _<|wb<|ae<|mv z<|ba z z<|aj z<|nl<|ih _ _ H _ _ ⟨z, z, z, z, z, tv⟩ ab z
 refine nK A H fun H=>wf (vN A)<|wx<|?_
 cases H
 exact ⟨z, z, ⟨z, z, z, z, z, tv⟩, ab, tv⟩
 rintro e r ds bl ⟨rfl, rfl, c, ag, _⟩
 rw [c.eq]; clear c
 refine ax _ _ _<|sQ fun bm aO=>sr fun bn aP=>mv z<|mv z<|cc z z<|mv z<|iJ H fun ah aQ hC H=>?_
 refine l7 6 (K := fun e r ds w => e = .normal ∧ ∃ (B : List eP) (M : Gh), ds = [] ∧ t ≤ M ∧ Has [(0, func (.yield yl) #[] #[]), (1, pointer (some ⟨g, 0, none⟩)), (2, pointer (some ⟨h, 0, none⟩)), (4, int .i64 q), (5, int .i64 L), (36, bool ah)] r ∧ Hp M (bx g [slice l d.length m] 44 :: bx h [func (.func 148) [].toArray [pointer (some ⟨a, 0, none⟩), pointer (some ⟨b, 0, none⟩)].toArray] 75 :: bx a [slice n i.length p] 44 :: bx b [int .i64 j] 3 :: B) w ∧ St aQ M B ∧ True) ?_ ?_
 refine have H:=hC;dC (q < L) (fun k=>?_) fun k=>?_
 refine yK k H fun H=>mv (hw:=gY z z z (bY k)) z<|mv (hw:=gY z z z (bY k)) z<|mv (hw:=gY z z z (bY k)) z<|iJ H fun bo bp hx148 H=>vP (hw:=gY z z z (bY k)) hy [bx g [slice l d.length m] 44, bx h [func (.func 148) [].toArray [pointer (some ⟨a, 0, none⟩), pointer (some ⟨b, 0, none⟩)].toArray] 75, bx a [slice n i.length p] 44, bx b [int .i64 j] 3] ag S z z ⟨_, _, z, ⟨_, z, z⟩, ⟨_, z, z⟩⟩ hx148 fun bq br aR aS aT aU=>be (hw:=gY z z z (bY k)) z<|bR (bY k) z<|nl<|?_
 cases H
 exact ⟨z, aR, _, z, aS, ⟨z, z, z, z, z, z, tv⟩, aU, aT, tv⟩
 refine nK k H fun H=>Sk 5 z z (bN k) z<|b7 (bN k) z<|nl<|?_
 cases H
 exact ⟨z, s, _, z, gR, ⟨z, z, z, z, z, z, tv⟩, ag, S, tv⟩
 rintro e r ds bs ⟨rfl, B, M, rfl, ai, c, ak, al, _⟩
 rw [c.eq]; clear c
 refine nl<|aP _ _ _<|dC (ah = true) (fun C=>?_) fun C=>?_
 refine yK C H fun H=>wt (vY C)<|wr<|?_
 cases H
 exact ⟨z, B, _, z, (gT x ai), trivial, ak, al, tv⟩
 refine nK C H fun H=>wf (vN C)<|ws<|aO _ _ _<|ae<|mv z<|mv z<|rl z z<|aj z<|nl<|av _ _ _<|ae<|mv z<|ba z z<|?_
 exact aj z<|nl<|ih _ _ _ H B _ _ _ (gT x ai) ⟨z, z, z, z, tv⟩ ak al z
 refine nK y H fun H=>wf (bN y)<|wx<|?_
 cases H
 exact ⟨z, s, _, z, x, trivial, R, S, tv⟩
 rcases P with W | X
 rintro e r ds bt ⟨rfl, D, E, rfl, aV, c, aW, aX, _⟩
 rw [c.eq]; clear c
 cases H
 exact ⟨.inr z, z, _, z, D, _, aV, aW, aX, z⟩
 rintro e r ds bu ⟨rfl, F, J, rfl, aY, c, a0, a1, _⟩
 rw [c.eq]; clear c
 cases H
 exact ⟨.inl z, z, _, z, F, _, aY, a0, a1, z⟩
theorem nu {a1 x y E q p s A R G L w} (H : cn a1 = some R) (hI : Hp G (gn G (Kd.int .i64) x y a1 E A 3 :: L) w) (F : a1.length = p) (B : Mw x q y.length p s A 1) :
    Calls Tryz.prog 151 [slice q p s].toArray w fun e w' => ∃ (G' : Gh), G ≤ G' ∧ Hp G' (gn G' (Kd.int .i64) x y R E A 3 :: L) w' ∧ R.length = p ∧ e = .returned (tuple [].toArray) := by
 refine ac (N := 28) Tryz.func151 z z (Nat.le_of_ble_eq_true z)<|?_
 unfold cn at H
 refine sr fun aT ay=>mv z<|pO lg z F<|dl z z<|aj z<|aj z<|nl<|ay _ _ _<|wb<|bK H fun S hC H=>aq (Q := fun e r ds w => e = .exit 0 ∧ ∃ (T : Gh) (P : Gh), ds = [] ∧ G ≤ P ∧ Has [] r ∧ Hp P (gn T (Kd.int .i64) x y S E A 3 :: L) w ∧ S.length = p ∧ T ≤ P ∧ True) ?_ ?_
 refine aB fun I aw=>?_
 refine bf.partial_correctness a1 (fun n l m o => ∀ (J : Gh) (C : Gh) (r : Rg) (w : World), G ≤ C → Has [(0, slice q p s), (2, int .i64 l), (3, int .i64 m)] r → Hp C (gn J (Kd.int .i64) x y n E A 3 :: L) w → n.length = p → J ≤ C → o = S → I r [] w) ?_ a1 0 (ax ((a1.length : Int) - 1)) _ hC G _ _ _ gR ⟨rfl, rfl, rfl, tv⟩ hI F gR rfl
 intro _ ih n l m o H J C r aU al M am K an ho
 rw [ho] at H; clear ho
 rw [M.eq]; clear M
 refine aw _ _ _<|sQ fun aV az=>sr fun aW aA=>mv z<|mv z<|aN z z<|nl<|aA _ _ _<|dC (l < m) (fun O=>?_) fun O=>?_
 refine yK O H fun H=>wt (bY O)<|ws<|az _ _ _<|sQ fun aX aC=>wb<|iK H fun⟨U, aD⟩H=>have V:=jK F aD;?_
 obtain ⟨W, ao⟩ := Mw.ad B U V
 refine iK H fun⟨X, aE⟩H=>have Y:=jK F aE;?_
 obtain ⟨Z, ar⟩ := Mw.ad B X Y
 refine iK H fun⟨aa, aF⟩H=>have ab:=jK F aF;?_
 obtain ⟨af, au⟩ := Mw.ad B aa ab
 refine iK H fun⟨ag, aG⟩H=>have ah:=jK F aG;?_
 obtain ⟨ai, av⟩ := Mw.ad B ag ah
 refine eC [0, 0, 0, 0, 0, 0, 48, 112, 0, 0, 768, 1792, 4083, 8179, 16383, 32767] (fun D r w => (D 13 = false ∧ ∃ (G' : Gh), C ≤ G' ∧ ap [(0, slice q p s), (2, int .i64 l), (3, int .i64 m)] [] [(0, 14, slice q p s), (1, 15, int .i64 l), (2, 16, slice q p s), (3, 17, int .i64 m), (4, 18, slice q p s), (5, 19, int .i64 m), (6, 20, pointer (some (W.add (Int.toNat m * 1)))), (7, 21, int .i64 (n.getD (Int.toNat m) (0 : Int))), (8, 22, slice q p s), (9, 23, int .i64 l), (10, 24, pointer (some (Z.add (Int.toNat l * 1)))), (11, 25, int .i64 (n.getD (Int.toNat l) (0 : Int))), (12, 26, pointer (some (af.add (Int.toNat l * 1))))] D r ∧ Hp G' (gn J (Kd.int .i64) x y n E A 3 :: L) w) ∨ (D 13 = true ∧ D 15 = false ∧ ∃ (G' : Gh), C ≤ G' ∧ ap [(0, slice q p s), (2, int .i64 l), (3, int .i64 m)] [] [(0, 14, slice q p s), (1, 15, int .i64 l), (2, 16, slice q p s), (3, 17, int .i64 m), (4, 18, slice q p s), (5, 19, int .i64 m), (6, 20, pointer (some (W.add (Int.toNat m * 1)))), (7, 21, int .i64 (n.getD (Int.toNat m) (0 : Int))), (8, 22, slice q p s), (9, 23, int .i64 l), (10, 24, pointer (some (Z.add (Int.toNat l * 1)))), (11, 25, int .i64 (n.getD (Int.toNat l) (0 : Int))), (12, 26, pointer (some (af.add (Int.toNat l * 1)))), (14, 27, pointer (some (ai.add (Int.toNat m * 1))))] D r ∧ Hp G' (gn J (Kd.int .i64) x y (List.set n (Int.toNat l) (n.getD (Int.toNat m) (0 : Int))) E A 3 :: L) w) ∨ (D 15 = true ∧ ∃ (G' : Gh), C ≤ G' ∧ ap [(0, slice q p s), (2, int .i64 l), (3, int .i64 m)] [] [(0, 14, slice q p s), (1, 15, int .i64 l), (2, 16, slice q p s), (3, 17, int .i64 m), (4, 18, slice q p s), (5, 19, int .i64 m), (6, 20, pointer (some (W.add (Int.toNat m * 1)))), (7, 21, int .i64 (n.getD (Int.toNat m) (0 : Int))), (8, 22, slice q p s), (9, 23, int .i64 l), (10, 24, pointer (some (Z.add (Int.toNat l * 1)))), (11, 25, int .i64 (n.getD (Int.toNat l) (0 : Int))), (12, 26, pointer (some (af.add (Int.toNat l * 1)))), (14, 27, pointer (some (ai.add (Int.toNat m * 1))))] D r ∧ Hp G' (gn J (Kd.int .i64) x y (List.set (List.set n (Int.toNat l) (n.getD (Int.toNat m) (0 : Int))) (Int.toNat m) (n.getD (Int.toNat l) (0 : Int))) E A 3 :: L) w)) jD z z ?_ ?_ ?_
 exact (.inl ⟨z, _, Gh.le_refl _, ap.start ⟨z, z, z, tv⟩ trivial, am.drew⟩)
 refine ⟨?_, ?_, ?_, ?_, ?_, ?_, ?_, ?_, ?_, ?_, ?_, ?_, ?_, ?_, ?_, ?_, tv⟩
 rintro D r u (⟨f, g, c, a, b⟩ | ⟨d, f, g, c, a, b⟩ | ⟨d, g, c, a, b⟩) j k i
 obtain ⟨t, rfl⟩ := Has.ex (cC (a.ins.get 0 rfl) cN)
 exact mv z<|nl ⟨z, (.inl ⟨f, _, c, (ap.step a j z z z z), b⟩)⟩
 cases (i 13 rfl).symm.trans d
 cases (i 15 rfl).symm.trans d
 rintro D r u (⟨f, g, c, a, b⟩ | ⟨d, f, g, c, a, b⟩ | ⟨d, g, c, a, b⟩) j k i
 obtain ⟨t, rfl⟩ := Has.ex (cC (a.ins.get 1 rfl) cN)
 exact mv z<|nl ⟨z, (.inl ⟨f, _, c, (ap.step a j z z z z), b⟩)⟩
 cases (i 13 rfl).symm.trans d
 cases (i 15 rfl).symm.trans d
 rintro D r u (⟨f, g, c, a, b⟩ | ⟨d, f, g, c, a, b⟩ | ⟨d, g, c, a, b⟩) j k i
 obtain ⟨t, rfl⟩ := Has.ex (cC (a.ins.get 0 rfl) cN)
 exact mv z<|nl ⟨z, (.inl ⟨f, _, c, (ap.step a j z z z z), b⟩)⟩
 obtain ⟨t, rfl⟩ := Has.ex (cC (a.ins.get 0 rfl) cN)
 exact mv z<|nl ⟨z, (.inr (.inl ⟨d, f, _, c, (ap.step a j z z z z), b⟩))⟩
 cases (i 15 rfl).symm.trans d
 rintro D r u (⟨f, g, c, a, b⟩ | ⟨d, f, g, c, a, b⟩ | ⟨d, g, c, a, b⟩) j k i
 obtain ⟨t, rfl⟩ := Has.ex (cC (a.ins.get 2 rfl) cN)
 exact mv z<|nl ⟨z, (.inl ⟨f, _, c, (ap.step a j z z z z), b⟩)⟩
 obtain ⟨t, rfl⟩ := Has.ex (cC (a.ins.get 2 rfl) cN)
 exact mv z<|nl ⟨z, (.inr (.inl ⟨d, f, _, c, (ap.step a j z z z z), b⟩))⟩
 cases (i 15 rfl).symm.trans d
 rintro D r u (⟨f, g, c, a, b⟩ | ⟨d, f, g, c, a, b⟩ | ⟨d, g, c, a, b⟩) j k i
 obtain ⟨t, rfl⟩ := Has.ex (cC (a.ins.get 0 rfl) cN)
 exact mv z<|nl ⟨z, (.inl ⟨f, _, c, (ap.step a j z z z z), b⟩)⟩
 cases (i 13 rfl).symm.trans d
 cases (i 15 rfl).symm.trans d
 rintro D r u (⟨f, g, c, a, b⟩ | ⟨d, f, g, c, a, b⟩ | ⟨d, g, c, a, b⟩) j k i
 obtain ⟨t, rfl⟩ := Has.ex (cC (a.ins.get 2 rfl) cN)
 exact mv z<|nl ⟨z, (.inl ⟨f, _, c, (ap.step a j z z z z), b⟩)⟩
 cases (i 13 rfl).symm.trans d
 cases (i 15 rfl).symm.trans d
 rintro D r u (⟨f, g, c, a, b⟩ | ⟨d, f, g, c, a, b⟩ | ⟨d, g, c, a, b⟩) j k i
 obtain ⟨t, rfl⟩ := Has.ex (cC (a.get 4 rfl (k 4 rfl)) (cC (a.get 5 rfl (k 5 rfl)) cN))
 exact bP dI z ao z U V<|nl ⟨z, (.inl ⟨f, _, c, (ap.step a j z z z z), b⟩)⟩
 cases (i 13 rfl).symm.trans d
 cases (i 15 rfl).symm.trans d
 rintro D r u (⟨f, g, c, a, b⟩ | ⟨d, f, g, c, a, b⟩ | ⟨d, g, c, a, b⟩) j k i
 obtain ⟨t, rfl⟩ := Has.ex (cC (a.get 6 rfl (k 6 rfl)) cN)
 obtain ⟨_, rfl, _, aH⟩ := Hp.rwGet b 0 rfl B K ao (0 : Int) U V
 exact jH (v := int .i64 (n.getD (Int.toNat m) (0 : Int))) bv z (cell0 (aH 0 _ z))<|nl ⟨z, (.inl ⟨f, _, c, (ap.step a j z z z z), b⟩)⟩
 cases (i 13 rfl).symm.trans d
 cases (i 15 rfl).symm.trans d
 rintro D r u (⟨f, g, c, a, b⟩ | ⟨d, f, g, c, a, b⟩ | ⟨d, g, c, a, b⟩) j k i
 obtain ⟨t, rfl⟩ := Has.ex (cC (a.ins.get 0 rfl) cN)
 exact mv z<|nl ⟨z, (.inl ⟨f, _, c, (ap.step a j z z z z), b⟩)⟩
 cases (i 13 rfl).symm.trans d
 cases (i 15 rfl).symm.trans d
 rintro D r u (⟨f, g, c, a, b⟩ | ⟨d, f, g, c, a, b⟩ | ⟨d, g, c, a, b⟩) j k i
 obtain ⟨t, rfl⟩ := Has.ex (cC (a.ins.get 1 rfl) cN)
 exact mv z<|nl ⟨z, (.inl ⟨f, _, c, (ap.step a j z z z z), b⟩)⟩
 cases (i 13 rfl).symm.trans d
 cases (i 15 rfl).symm.trans d
 rintro D r u (⟨f, g, c, a, b⟩ | ⟨d, f, g, c, a, b⟩ | ⟨d, g, c, a, b⟩) j k i
 obtain ⟨t, rfl⟩ := Has.ex (cC (a.get 8 rfl (k 8 rfl)) (cC (a.get 9 rfl (k 9 rfl)) cN))
 exact bP dI z ar z X Y<|nl ⟨z, (.inl ⟨f, _, c, (ap.step a j z z z z), b⟩)⟩
 cases (i 13 rfl).symm.trans d
 cases (i 15 rfl).symm.trans d
 rintro D r u (⟨f, g, c, a, b⟩ | ⟨d, f, g, c, a, b⟩ | ⟨d, g, c, a, b⟩) j k i
 obtain ⟨t, rfl⟩ := Has.ex (cC (a.get 10 rfl (k 10 rfl)) cN)
 obtain ⟨_, rfl, _, aI⟩ := Hp.rwGet b 0 rfl B K ar (0 : Int) X Y
 exact jH (v := int .i64 (n.getD (Int.toNat l) (0 : Int))) bv z (cell0 (aI 0 _ z))<|nl ⟨z, (.inl ⟨f, _, c, (ap.step a j z z z z), b⟩)⟩
 cases (i 13 rfl).symm.trans d
 cases (i 15 rfl).symm.trans d
 rintro D r u (⟨f, g, c, a, b⟩ | ⟨d, f, g, c, a, b⟩ | ⟨d, g, c, a, b⟩) j k i
 obtain ⟨t, rfl⟩ := Has.ex (cC (a.get 0 rfl (k 0 rfl)) (cC (a.get 1 rfl (k 1 rfl)) cN))
 exact bP dI z au z aa ab<|nl ⟨z, (.inl ⟨f, _, c, (ap.step a j z z z z), b⟩)⟩
 cases (i 13 rfl).symm.trans d
 cases (i 15 rfl).symm.trans d
 rintro D r u (⟨f, g, c, a, b⟩ | ⟨d, f, g, c, a, b⟩ | ⟨d, g, c, a, b⟩) j k i
 obtain ⟨t, rfl⟩ := Has.ex (cC (a.get 7 rfl (k 7 rfl)) (cC (a.get 12 rfl (k 12 rfl)) cN))
 exact jI (kd := (Kd.int .i64)) b 0 (v := int .i64 (n.getD (Int.toNat m) (0 : Int))) (news := [int .i64 (n.getD (Int.toNat m) (0 : Int))]) (0 : Int) (n.getD (Int.toNat m) (0 : Int)) bv z B K au aa ab (add_zero' _) z z z z z (Nat.le_of_ble_eq_true z) gR (fun _ ho => dm ho z z) fun aY aJ=>nl ⟨z, (.inr (.inl ⟨z, (i 15 z), _, c, (ap.stepN (ap.more (new := [(14, 27, pointer (some (ai.add (Int.toNat m * 1))))]) a (List.forall_mem_cons.2 ⟨i 14 z, (fun _ h => nomatch h)⟩)) z z), aJ⟩))⟩
 cases j.symm.trans d
 cases (i 15 rfl).symm.trans d
 rintro D r u (⟨f, g, c, a, b⟩ | ⟨d, f, g, c, a, b⟩ | ⟨d, g, c, a, b⟩) j k i
 cases (k 13 rfl).symm.trans f
 obtain ⟨t, rfl⟩ := Has.ex (cC (a.get 2 rfl (k 2 rfl)) (cC (a.get 3 rfl (k 3 rfl)) cN))
 exact bP dI z av z ag ah<|nl ⟨z, (.inr (.inl ⟨d, f, _, c, (ap.step a j z z z z), b⟩))⟩
 cases (i 15 rfl).symm.trans d
 rintro D r u (⟨f, g, c, a, b⟩ | ⟨d, f, g, c, a, b⟩ | ⟨d, g, c, a, b⟩) j k i
 cases (k 13 rfl).symm.trans f
 obtain ⟨t, rfl⟩ := Has.ex (cC (a.get 11 rfl (k 11 rfl)) (cC (a.get 13 rfl (k 14 rfl)) cN))
 exact jI (kd := (Kd.int .i64)) b 0 (v := int .i64 (n.getD (Int.toNat l) (0 : Int))) (news := [int .i64 (n.getD (Int.toNat l) (0 : Int))]) (0 : Int) (n.getD (Int.toNat l) (0 : Int)) bv z B (cB K) av ag ah (add_zero' _) z z z z z (Nat.le_of_ble_eq_true z) gR (fun _ ho => dm ho z z) fun aZ aK=>nl ⟨z, (.inr (.inr ⟨z, _, c, (ap.stepN a z z), aK⟩))⟩
 cases j.symm.trans d
 intro D r u ak hR
 rcases hR with ⟨f, g, c, a, b⟩ | ⟨d, f, g, c, a, b⟩ | ⟨d, g, c, a, b⟩
 cases (ak 13 (Nat.le_of_ble_eq_true rfl)).symm.trans f
 cases (ak 15 (Nat.le_of_ble_eq_true rfl)).symm.trans f
 obtain ⟨t, rfl⟩ := Has.ex (cC (a.ins.get 0 rfl) (cC (a.ins.get 1 rfl) (cC (a.ins.get 2 rfl) cN)))
 exact aC _ _ _<|ae<|mv z<|ba z z<|mv z<|dl z z<|aj z<|aj z<|nl<|have aL:=Hp.rwUp b 0 z (gT an c);ih _ _ _ _ H g _ _ _ (gT al c) ⟨z, z, z, tv⟩ aL (cB (cB K)) gR z
 refine nK O H fun H=>wf (bN O)<|wx<|have aM:=Hp.rwUp am 0 z an;?_
 cases H
 exact ⟨z, C, _, z, al, trivial, aM, K, gR, tv⟩
 rintro e r ds a0 ⟨rfl, T, P, rfl, aO, M, aP, aQ, aR, _⟩
 rw [M.eq]; clear M
 refine have aS:=Hp.rwUp aP 0 z aR;?_
 cases H
 exact ⟨.inl z, z, _, z, _, aO, aS, aQ, z⟩
theorem rM {a1 k a17 n d m f b g p t v ac ad af G L w} (H : jd a1 k a17 = some af) (hI : Hp G (gn G (Kd.int .i64) n d a1 m p 3 :: L) w) (y : a1.length = b) (ag : Mw n f d.length b g p 1) (av : k.length ≤ v) (aw : Dat (Kd.int .i64) G t k) (b3 : a17.length ≤ ad) (aJ : Dat (Kd.int .i64) G ac a17) :
    Calls Tryz.prog 117 [slice f b g, slice t k.length v, slice ac a17.length ad].toArray w fun e w' => ∃ (G' : Gh), G ≤ G' ∧ Hp G' (gn G' (Kd.int .i64) n d af m p 3 :: L) w' ∧ af.length = b ∧ e = .returned (tuple [].toArray) := by
 refine iH (N := 30) Tryz.func117 z z (Nat.le_of_ble_eq_true z)<|?_
 unfold jd at H
 refine sr fun b4 aK=>io hI z z fun B b5 aL=>io aL z z fun q b6 aO=>nl<|aK _ _ _<|sr fun b7 aP=>mv z<|q_len lg z<|mv z<|nl<|aP _ _ _<|wb<|bK H fun X hC H=>?_
 refine aq (Q := fun e r ds w => e = .exit 0 ∧ ∃ (Y : List Nat) (Z : Gh) (aa : Gh), ds = (List.map Go.LG.mark Y) ∧ G ≤ aa ∧ Has [] r ∧ Hp aa (bx q [slice t k.length v] 44 :: bx B [slice f b g] 44 :: gn Z (Kd.int .i64) n d X m p 3 :: (List.map uO Y ++ L)) w ∧ X.length = b ∧ Z ≤ aa ∧ True) ?_ ?_
 refine aB fun I aI=>?_
 refine bn.partial_correctness a1 k a17 (fun ah F o => ∀ (C : List Nat) (ai : Gh) (J : Gh) (r : Rg) (w : World), G ≤ J → Has [(3, pointer (some ⟨B, 0, none⟩)), (4, pointer (some ⟨q, 0, none⟩)), (11, slice ac a17.length ad), (12, int .i64 (a17.length : Int)), (13, int .i64 F)] r → Hp J (bx q [slice t k.length v] 44 :: bx B [slice f b g] 44 :: gn ai (Kd.int .i64) n d ah m p 3 :: (List.map uO C ++ L)) w → ah.length = b → ai ≤ J → o = X → I r (List.map Go.LG.mark C) w) ?_ a1 0 _ hC ([] : List Nat) G _ _ _ gR ⟨rfl, rfl, rfl, rfl, rfl, tv⟩ aO y gR rfl
 intro _ ih ah F o H C ai J r b8 O E ak ax ay ho
 rw [ho] at H; clear ho
 rw [E.eq]; clear E
 refine aI _ _ _<|sr fun b9 aQ=>aN z z<|nl<|aQ _ _ _<|sQ fun ca aR=>dC (F < (a17.length : Int)) (fun P=>?_) fun P=>?_
 refine yK P H fun H=>wt (bY P)<|ws<|aR _ _ _<|sQ fun cb aS=>wb<|sr fun cc aT=>iK H fun⟨az, aA⟩H=>?_
 obtain ⟨cd, ce, aU, aV, cf, aW⟩ := Dat.get (Dat.mono O aJ) (0 : Int) (F) az aA
 obtain rfl := aV
 refine bP dI z aU z az aA<|fO ak bv z (gR.cel _ _ (aW 0 _ z))<|aM ak vI fun ab cg aX=>fX aX 0 bv z z z z z z z fun ch aC=>nl<|aT _ _ _<|sr fun ci aY=>qG (vs := []) (us := [pointer (some ⟨q, 0, none⟩), pointer (some ⟨ab, 0, none⟩)]) z z<|aj z<|nl<|aY _ _ _<|sr fun cj aZ=>ld aC 2 oO z z z<|have a0:=Hp.rwUp aC 3 z ay;?_
 refine have a2:=Hp.pick 4 [3, 0, 1, 2] a0 z;iJ H fun al aD a3 H=>fU (vs := [slice f b g]) DJ z z (oy a3 a2 ax ag)<|?_
 rintro _ ck ⟨am, an, cl, ao, a4, a5, a6, cm, a7, rfl⟩
 refine ⟨_, rfl, ?_⟩
 refine mv z<|have a8:=Hp.pick 5 [3, 2, 0, 1, 4] a4 z;bK H fun a9 bb H=>fU (vs := [slice am al.length an, func (.func 148) [].toArray [pointer (some ⟨q, 0, none⟩), pointer (some ⟨ab, 0, none⟩)].toArray]) EU z z (pw bb a8 a5 a6 av (Dat.mono (gT O ao) aw))<|?_
 rintro _ cn ⟨bc, bd, be, bf, ap, ar, bg, bh, bi, rfl⟩
 refine ⟨_, rfl, ?_⟩
 refine nl<|aZ _ _ _<|wb<|have bj:=Hp.rwUp bg 5 z ar;have bk:=Hp.pick 7 [0, 1, 2, 3, 6, 4, 5] bj z;iJ H fun R bl bm H=>mj bk DF z fun fn tmps gl au co bo aE=>?_
 have bp : Yl Tryz.prog (j5 (fun (u : (List Int)) (x : Int × Int) => bE a1 u x.1 x.2)) (vi (enc1 (Kd.int .i64)) (enc1 (Kd.int .i64))) _ gl := ni (pp := [22, 23]) (gdd := au) aE (fun (u : (List Int)) (x : Int × Int) => bE a1 u x.1 x.2) [] (fun (u : (List Int)) (G' : Gh) (K : List eP) => ∃ (D : Gh) (_ : ap ≤ G'), K = bx B [slice f b g] 44 :: tk (slice am al.length an) 1 3 :: gn D (Kd.int .i64) n d u m p 3 :: (List.map uO (au :: C) ++ L) ∧ u.length = b ∧ D ≤ G' ∧ True) bo (fun _ _ _ h => (fun h => rQ (fun h => nt h) (fun h => nt h) h) h) (fun hG' ⟨D, bq, hK', i, S, _⟩ => ⟨D, gT bq hG', hK', i, (gT S hG'), tv⟩) (by
 rintro Rd Bs R u' ⟨s, T⟩ jo' cp K M cq vs ⟨D, br, rfl, i, S, _⟩ ⟨_, _, rfl, ⟨_, rfl, bs⟩, ⟨_, rfl, bt⟩⟩ H bu
 cases bs
 cases bt
 replace H : bE a1 R s T = some (u', jo') := H
 unfold bE at H
 refine sr fun cr bw=>aj z<|nl<|bw _ _ _<|ae<|aj z<|nl<|?_
 refine ⟨rfl, rfl, _, _, gR, bu, fun cs aF => ?_⟩
 refine wb<|ae<|ld aF 1 oO z z z<|mv z<|mv z<|iK H fun⟨U, V, W⟩H=>Cs (l := s) (h := T) dI z (.inr ⟨_, z, z⟩) (.inr ⟨_, z, z⟩) ag.le U V (Db y W)<|have bz:=Hp.rwRe aF 3 z (xI R m d U V (te i y W));have bA:=Hp.rwUp bz 3 z S;have bB:=Hp.pick 4 [3, 0, 1, 2] bA z;bK H fun bC bD H=>fU (vs := [slice (if g = Int.toNat s then f else Option.map (fun a => Addr.add a (Int.toNat s * 1)) f) (Int.toNat T - Int.toNat s) (g - Int.toNat s)]) Em z z (nu (a1 := fk R s T) bD bB (ve U V (te i y W)) (Mw.win (kd := (Kd.int .i64)) (A := f) (c := g) (pre := d) ag i U V (te i y W)))<|?_
 rintro _ ct ⟨bF, aG, bG, bH, rfl⟩
 refine ⟨_, rfl, ?_⟩
 refine have bI:=Hp.rwRe bG 0 z (tK R m d bC s T);nl<|have bJ:=Hp.pick 4 [1, 2, 3, 0] bI z;?_
 cases H
 exact ⟨z, _, _, aG, ⟨bF, (gT br aG), z, (ss i U V (te i y W) bH), gR, tv⟩, bJ⟩)
 refine have bL:=Hp.sink (A := [bx bc [slice bd a9.length be] 44, bx bf [func (.func 148) [].toArray [pointer (some ⟨q, 0, none⟩), pointer (some ⟨ab, 0, none⟩)].toArray] 75, bx q [slice t k.length v] 44, bx ab [int .i64 (a17.getD (Int.toNat F) (0 : Int))] 3]) (K := [bx B [slice f b g] 44, tk (slice am al.length an) 1 3, gn ap (Kd.int .i64) n d aD m p 3]) aE;(oH (sy := (aD, none)) bm bL bh bi av (Dat.mono (gT (gT O ao) ar) aw) bp ⟨_, z, ap, Gh.le_refl _, z, a7, gR, tv⟩).mono<|?_
 rintro _ cu ⟨cv, aH, cw, bM, ⟨K, rfl, D, bO, rfl, i, S, _⟩, rfl⟩
 refine have bQ:=Hp.front bM 4 z;?_
 rcases bl with _ | j
 refine ⟨_, rfl, LoopState.ready, none, aH, _, (fun h => nomatch h), bQ, fun cx bR => ?_⟩
 exact aS _ _ _<|ae<|ba z z<|mv z<|nl<|have bS:=Hp.rwUp bR 6 z S;have bT:=Hp.pick 7 [2, 4, 6] bS z;ih _ _ _ H (au :: C) aH _ _ _ (gT (gT (gT O ao) ar) bO) ⟨z, z, z, z, z, tv⟩ bT i gR z
 cases H
 refine nK P H fun H=>wf (bN P)<|wx<|have bU:=Hp.rwUp ak 2 z ay;?_
 cases H
 exact ⟨z, C, J, _, z, O, trivial, bU, ax, gR, tv⟩
 rintro e r ds cy ⟨rfl, Y, Z, aa, rfl, bV, E, bW, bX, bZ, _⟩
 rw [E.eq]; clear E
 refine ⟨.inl rfl, Y, _, _, rfl, Hp.marks (K := [bx q [slice t k.length v] 44, bx B [slice f b g] 44, gn Z (Kd.int .i64) n d X m p 3]) bW, fun cz b0 => ?_⟩
 refine have b1:=Hp.rwUp b0 2 z bZ;have b2:=Hp.pick 3 [2] b1 z;?_
 cases H
 exact ⟨_, z, _, bV, b2, bX, z⟩
end Go.Proofs.YtaemgcpcfnbmdaaGreatDoor.LG
