/- The packets of a deed: the program's and the reference's are one and the same, for deeds within the bounds; and what their events are. -/
import Derived.Test.YtmegkokogomfnaaGreatPlName
import Derived.Test.YtmegkokogomfnaaGreatPlSign
namespace Go.Proofs.YtmegkokogomfnaaGreat
open Go.RowKit

/-! Users, rooms, and the parts of names. -/
def idB (s : ByteArray) : Bool := markedB s 64 || (markedB s 33 || false)
theorem split_both {s : ByteArray} (hs : s.size ≤ 9223372036854) : ids_split s s__40_21 = some (splitB s (idB s)) :=
  split_eq hs (marks := s__40_21) (by rw [show sBytes s__40_21 = [64, 33] from rfl]; intro m hm; simp only [List.mem_cons, List.not_mem_nil, or_false] at hm; omega)
theorem LocalOf_eq {s : ByteArray} (hs : s.size ≤ 9223372036854) : ids_LocalOf s = some (splitB s (idB s)).1 ∧ R02_LocalOf s = some (splitB s (idB s)).1 := by
  unfold ids_LocalOf R02_LocalOf
  rw [split_both hs, R02_marked_eq hs (by decide), R02_marked_eq hs (by decide), R02_colon_eq hs]
  refine ⟨rfl, ?_⟩
  unfold idB
  cases h64 : markedB s 64 with
  | true =>
    have h0 : 0 < s.size ∧ (sBytes s).getD 0 0 = 64 := by unfold markedB at h64; simp only [Bool.and_eq_true, decide_eq_true_eq, beq_iff_eq] at h64; exact ⟨h64.1.1, h64.1.2⟩
    have e1 : gStr s 1 (colP s : Int) = some (locB s) := gStr_at (lo := 1) (colP_pos h0.1 (by rw [h0.2]; decide)) (colP_le s)
    simp only [Option.bind_some, Bool.not_true, cond_false, e1, Bool.true_or]; rfl
  | false =>
    cases h33 : markedB s 33 with
    | true =>
      have h0 : 0 < s.size ∧ (sBytes s).getD 0 0 = 33 := by unfold markedB at h33; simp only [Bool.and_eq_true, decide_eq_true_eq, beq_iff_eq] at h33; exact ⟨h33.1.1, h33.1.2⟩
      have e1 : gStr s 1 (colP s : Int) = some (locB s) := gStr_at (lo := 1) (colP_pos h0.1 (by rw [h0.2]; decide)) (colP_le s)
      simp only [Option.bind_some, Bool.not_true, Bool.not_false, cond_false, cond_true, e1, Bool.false_or, Bool.true_or]; rfl
    | false => rfl
theorem restB_lt {s : ByteArray} (h : restB s = true) : colP s < s.size := by unfold restB at h; simp only [Bool.and_eq_true, decide_eq_true_eq] at h; exact h.1.1
theorem ServerOf_eq {s : ByteArray} (hs : s.size ≤ 9223372036854) : ids_ServerOf s = some (splitB s (idB s)).2.1 ∧ R02_ServerOf s = some (splitB s (idB s)).2.1 := by
  have eh : colP s < s.size → gStr s (IntKind.i64.wrap ((colP s : Int) + 1)) (s.size : Int) = some (hostB s) := fun h3 => by
    rw [wrap_id (by omega) (by omega), show (colP s : Int) + 1 = ((colP s + 1 : Nat) : Int) by omega]
    exact gStr_at (by omega) (Nat.le_refl _)
  unfold ids_ServerOf R02_ServerOf
  rw [split_both hs, R02_marked_eq hs (by decide), R02_marked_eq hs (by decide), R02_colon_eq hs]
  refine ⟨rfl, ?_⟩
  unfold idB
  cases h64 : markedB s 64 with
  | true =>
    have h0 := restB_lt (s := s) (by unfold markedB at h64; simp only [Bool.and_eq_true] at h64; exact h64.2)
    simp only [Option.bind_some, Bool.not_true, cond_false, eh h0, Bool.true_or]; rfl
  | false =>
    cases h33 : markedB s 33 with
    | true =>
      have h0 := restB_lt (s := s) (by unfold markedB at h33; simp only [Bool.and_eq_true] at h33; exact h33.2)
      simp only [Option.bind_some, Bool.not_true, Bool.not_false, cond_false, cond_true, eh h0, Bool.false_or, Bool.true_or]; rfl
    | false => rfl
def userI (s : ByteArray) : Int := bif markedB s 64 then 0 else 3
def roomI (s : ByteArray) : Int := bif markedB s 33 then 0 else 3
theorem User_eq {s : ByteArray} (hs : s.size ≤ 9223372036854) : ids_User s = some (userI s) ∧ R02_User s = some (userI s) := by
  unfold ids_User ids_identifies R02_User userI
  rw [split_eq hs (marks := s__40) (by rw [show sBytes s__40 = [64] from rfl]; intro m hm; simp only [List.mem_cons, List.not_mem_nil, or_false] at hm; omega), R02_marked_eq hs (by decide), show ((sBytes s__40).any fun m => markedB s m) = (markedB s 64 || false) from rfl]
  cases markedB s 64 <;> exact ⟨rfl, rfl⟩
theorem Room_eq {s : ByteArray} (hs : s.size ≤ 9223372036854) : ids_Room s = some (roomI s) ∧ R02_Room s = some (roomI s) := by
  unfold ids_Room ids_identifies R02_Room roomI
  rw [split_eq hs (marks := s__21) (by rw [show sBytes s__21 = [33] from rfl]; intro m hm; simp only [List.mem_cons, List.not_mem_nil, or_false] at hm; omega), R02_marked_eq hs (by decide), show ((sBytes s__21).any fun m => markedB s m) = (markedB s 33 || false) from rfl]
  cases markedB s 33 <;> exact ⟨rfl, rfl⟩

/-! A name put together. -/
theorem sBytes_append (a b : ByteArray) : sBytes (a ++ b) = sBytes a ++ sBytes b := by simp [sBytes, ByteArray.data_append]
def joinB (n h : ByteArray) : ByteArray := sOf [64] ++ n ++ s__3a ++ h
theorem joinB_bytes (n h : ByteArray) : sBytes (joinB n h) = 64 :: (sBytes n ++ 58 :: sBytes h) := by
  unfold joinB
  rw [sBytes_append, sBytes_append, sBytes_append, show sBytes (sOf [64]) = [64] from rfl, show sBytes s__3a = [58] from rfl]
  simp
theorem joinB_size (n h : ByteArray) : (joinB n h).size = n.size + h.size + 2 := by
  rw [← sBytes_length, joinB_bytes]; simp [sBytes_length]; omega
theorem joinB_col {n h : ByteArray} (hn : (58 : Int) ∉ sBytes n) : colP (joinB n h) = n.size + 1 := by
  unfold colP
  rw [joinB_bytes, List.findIdx_cons, show ((64 : Int) == 58) = false from rfl, cond_false, List.findIdx_append]
  have : ¬ (sBytes n).findIdx (· == 58) < (sBytes n).length := fun hl => by
    have := List.findIdx_getElem (w := hl)
    simp only [beq_iff_eq] at this
    exact hn (this ▸ List.getElem_mem hl)
  rw [if_neg this, List.findIdx_cons, show ((58 : Int) == 58) = true from rfl, cond_true, sBytes_length]
  omega
theorem joinB_loc {n h : ByteArray} (hn : (58 : Int) ∉ sBytes n) : sBytes (locB (joinB n h)) = sBytes n := by
  unfold locB
  rw [sBytes_extract, joinB_col hn, joinB_bytes, List.take_succ_cons, List.drop_succ_cons, List.drop_zero, ← sBytes_length n, List.take_left']
  rfl
theorem joinB_host {n h : ByteArray} (hn : (58 : Int) ∉ sBytes n) : sBytes (hostB (joinB n h)) = sBytes h := by
  unfold hostB
  rw [sBytes_extract, joinB_col hn, List.take_of_length_le (by rw [sBytes_length]; omega), joinB_bytes, List.drop_succ_cons]
  rw [show n.size + 1 = (sBytes n).length + 1 by rw [sBytes_length], List.drop_append, List.drop_of_length_le (by omega), show (sBytes n).length + 1 - (sBytes n).length = 1 by omega]
  rfl
theorem joinB_marked {n h : ByteArray} (hn : (58 : Int) ∉ sBytes n) : markedB (joinB n h) 64 = (localL (sBytes n) && serverL (sBytes h)) ∧ markedB (joinB n h) 33 = false := by
  have hz := joinB_size n h
  unfold markedB
  rw [joinB_bytes, show decide (0 < (joinB n h).size) = true from by simp; omega]
  unfold restB
  rw [joinB_loc hn, joinB_host hn, joinB_col hn, show decide (n.size + 1 < (joinB n h).size) = true from by simp; omega]
  exact ⟨by simp, rfl⟩
def makeB (n h : ByteArray) : ByteArray × Int := bif localL (sBytes n) && serverL (sBytes h) then (joinB n h, 0) else (s0, 3)
theorem Make_eq {n h : ByteArray} (h1 : n.size ≤ 2000) (h2 : h.size ≤ 2000) (hn : (58 : Int) ∉ sBytes n) : ids_Make 64 n h = some (makeB n h) ∧ R02_Make 64 n h = some (makeB n h) := by
  have hz := joinB_size n h
  obtain ⟨m1, m2⟩ := joinB_marked (h := h) hn
  have z1 : (sOf [64]).size = 1 := rfl
  have z2 : (sOf [64] ++ n).size = 1 + n.size := by rw [ByteArray.size_append, z1]
  have z3 : s__3a.size = 1 := rfl
  have z4 : (sOf [64] ++ n ++ s__3a).size = 1 + n.size + 1 := by rw [ByteArray.size_append, z2, z3]
  have g1 : gCat (sOf [64]) n = some (sOf [64] ++ n) := by unfold gCat; rw [if_pos (by omega)]
  have g2 : gCat (sOf [64] ++ n) s__3a = some (sOf [64] ++ n ++ s__3a) := by unfold gCat; rw [if_pos (by omega)]
  have g3 : gCat (sOf [64] ++ n ++ s__3a) h = some (joinB n h) := by unfold gCat; rw [if_pos (by omega)]; rfl
  unfold makeB
  constructor
  · unfold ids_Make
    rw [ids_local_eq (by omega), ids_server_eq (by omega)]
    cases localL (sBytes n) with
    | false => rfl
    | true =>
      cases serverL (sBytes h) with
      | false => rfl
      | true =>
        show (gCat (sOf [64]) n).bind (fun x10 => (gCat x10 s__3a).bind fun x11 => (gCat x11 h).bind fun x12 => some (x12, 0)) = _
        rw [g1, Option.bind_some, g2, Option.bind_some, g3]; rfl
  · unfold R02_Make
    rw [g1, Option.bind_some, g2, Option.bind_some, g3, Option.bind_some, R02_marked_eq (by omega) (by decide), R02_marked_eq (by omega) (by decide), m1, m2]
    cases localL (sBytes n) && serverL (sBytes h) <;> rfl
theorem local_no58 {l : List Int} (h : localL l = true) : (58 : Int) ∉ l := by
  intro hm
  unfold localL nameL at h
  simp only [Bool.and_eq_true, List.all_eq_true] at h
  have := h.2 58 hm
  exact absurd this (by decide)
theorem splitB_loc (s : ByteArray) (hs : s.size ≤ 2000) : (splitB s (idB s)).1.size ≤ 2000 ∧ (58 : Int) ∉ sBytes (splitB s (idB s)).1 ∧ (splitB s (idB s)).2.1.size ≤ 2000 := by
  have hz : s0.size ≤ 2000 := by decide
  cases h : idB s with
  | false => exact ⟨hz, by show (58 : Int) ∉ sBytes s0; decide, hz⟩
  | true =>
    have hr : restB s = true := by
      unfold idB markedB at h
      cases hr : restB s with
      | true => rfl
      | false => rw [hr] at h; simp at h
    refine ⟨Nat.le_trans (extract_size _ _ _) hs, local_no58 ?_, Nat.le_trans (extract_size _ _ _) hs⟩
    unfold restB at hr
    simp only [Bool.and_eq_true] at hr
    exact hr.1.2

/-! The deeds. -/
def ownE (e : ApiEvent) (server : ByteArray) : ApiEvent := bif (makeB (splitB e.Sender (idB e.Sender)).1 server).2 == 0 then { e with Sender := (makeB (splitB e.Sender (idB e.Sender)).1 server).1 } else e
def laterE (e : ApiEvent) : ApiEvent := { e with Time := addI e.Time 1 }
def txn (s : ApiServer) (d : ApiDeed) (e : ApiEvent) : ApiPacket := { zApiPacket with From := s.Name, To := d.To, Kind := 1, Events := [e] }
theorem own_eq {s : ApiServer} {e : ApiEvent} (he : e.Sender.size ≤ 2000) (hs : s.Name.size ≤ 2000) : evil_own s e = some (ownE e s.Name) ∧ R33_own e s.Name = some (ownE e s.Name) := by
  obtain ⟨a1, b1⟩ := LocalOf_eq (s := e.Sender) (by omega)
  obtain ⟨z1, z2, _⟩ := splitB_loc e.Sender he
  obtain ⟨a2, b2⟩ := Make_eq z1 hs z2
  unfold evil_own R33_own ownE
  rw [a1, b1, Option.bind_some, Option.bind_some, a2, b2, Option.bind_some, Option.bind_some]
  cases (makeB (splitB e.Sender (idB e.Sender)).1 s.Name).2 == 0 <;> exact ⟨rfl, rfl⟩
theorem makeB_size {n h : ByteArray} : (makeB n h).1.size ≤ 2000 := by
  unfold makeB
  cases hl : localL (sBytes n) && serverL (sBytes h) with
  | false => show s0.size ≤ 2000; decide
  | true =>
    simp only [Bool.and_eq_true] at hl
    have h1 := (nameL_pos hl.1).2
    have h2 : (sBytes h).length ≤ 32 := by
      have := hl.2
      unfold serverL at this
      simp only [Bool.and_eq_true] at this
      exact (nameL_pos this.1.1).2
    rw [sBytes_length] at h1 h2
    show (joinB n h).size ≤ 2000
    rw [joinB_size]; omega
theorem SmallE.own {e : ApiEvent} (h : SmallE e) (server : ByteArray) : SmallE (ownE e server) := by
  unfold ownE
  cases (makeB (splitB e.Sender (idB e.Sender)).1 server).2 == 0 with
  | true => exact ⟨h.prev, h.auth, h.allow, h.deny, h.users, h.kinds, h.room, makeB_size, h.key, h.text, h.via, h.server, h.allows, h.denies, h.names⟩
  | false => exact h
theorem SmallE.later {e : ApiEvent} (h : SmallE e) : SmallE (laterE e) := ⟨h.prev, h.auth, h.allow, h.deny, h.users, h.kinds, h.room, h.sender, h.key, h.text, h.via, h.server, h.allows, h.denies, h.names⟩
theorem SmallE.sig {e : ApiEvent} (h : SmallE e) (m n : Int) (g : ApiSig) (hs : g.Server.size ≤ 2000) : SmallE { e with Hash := m, Id := n, Sig := g } := ⟨h.prev, h.auth, h.allow, h.deny, h.users, h.kinds, h.room, h.sender, h.key, h.text, h.via, hs, h.allows, h.denies, h.names⟩
theorem SmallE.sign {e : ApiEvent} (h : SmallE e) {s : ByteArray} (hs : s.size ≤ 2000) : SmallE (signE e s) := by
  unfold signE
  obtain ⟨m, hm⟩ : ∃ m, m = idE { e with Hash := hashE e } := ⟨_, rfl⟩
  rw [← hm]
  exact h.sig _ _ _ hs
theorem later_eq (e : ApiEvent) : evil_later e = some (laterE e) ∧ R33_later e = some (laterE e) := by
  unfold evil_later R33_later
  rw [num_Add_eq, R01_Add_eq]
  exact ⟨rfl, rfl⟩

/-- An event of a malicious server: signed in its own name, or wrongly. -/
structure Forged (name : ByteArray) (e : ApiEvent) : Prop where
  small : SmallE e
  sig : e.Sig.Server = name ∨ e.Sig.Sum ≠ e.Id ∨ e.Sig.Server = s0
/-- A packet of a malicious server. -/
structure PacketOk (name : ByteArray) (p : ApiPacket) : Prop where
  events : ∃ e, p.Events = [e] ∧ Forged name e
  ids : p.Ids = []
  auth : p.Auth = []
theorem txn_ok {s : ApiServer} {d : ApiDeed} {e : ApiEvent} (h : Forged s.Name e) : PacketOk s.Name (txn s d e) := ⟨⟨e, rfl, h⟩, rfl, rfl⟩
theorem signE_server (e : ApiEvent) (s : ByteArray) : (signE e s).Sig.Server = s := by unfold signE; rfl
theorem sign_ok {name : ByteArray} {e : ApiEvent} (h : SmallE e) (hs : name.size ≤ 2000) : Forged name (signE e name) := ⟨h.sign hs, .inl (signE_server e name)⟩

theorem Forge_eq {s : ApiServer} {d : ApiDeed} (h1 : s.Name.size ≤ 2000) (h2 : d.To.size ≤ 2000) (he : SmallE d.Event) : ∃ p, evil_Forge s d = some p ∧ R33_Forge s d = some p ∧ p.1.length ≤ 2 ∧ ∀ q ∈ p.1, PacketOk s.Name q := by
  obtain ⟨n, r1, r2⟩ := Right_eq s d (by omega)
  obtain ⟨o1, o2⟩ := own_eq (s := s) he.sender h1
  have ho := he.own s.Name
  unfold evil_Forge R33_Forge
  rw [r1, r2, Option.bind_some, Option.bind_some]
  cases hn : n != 0 with
  | true => exact ⟨_, rfl, rfl, by simp, by simp⟩
  | false =>
    rw [cond_false, cond_false, o1, o2]
    simp only [Option.bind_some]
    cases k1 : d.Kind == 1 with
    | true =>
      obtain ⟨s1, s2⟩ := Sign_eq ho s.Name
      rw [cond_true, cond_true, s1, s2]
      refine ⟨([txn s d (signE (ownE d.Event s.Name) s.Name)], 0), rfl, rfl, by simp, fun q hq => ?_⟩
      simp only [List.mem_cons, List.not_mem_nil, or_false] at hq
      subst hq; exact txn_ok (sign_ok ho h1)
    | false =>
      rw [cond_false, cond_false]
      cases k2 : d.Kind == 2 with
      | true =>
        obtain ⟨v1, v2⟩ := ServerOf_eq (s := d.Event.Sender) (by have := he.sender; omega)
        have vz := (splitB_loc d.Event.Sender he.sender).2.2
        obtain ⟨host, hh⟩ : ∃ x, x = (splitB d.Event.Sender (idB d.Event.Sender)).2.1 := ⟨_, rfl⟩
        rw [← hh] at v1 v2 vz
        obtain ⟨s1, s2⟩ := Sign_eq he host
        obtain ⟨x, hx⟩ : ∃ x, x = signE d.Event host := ⟨_, rfl⟩
        have hxs : SmallE x := hx ▸ he.sign vz
        rw [← hx] at s1 s2
        obtain ⟨l1, l2⟩ := later_eq x
        obtain ⟨i1, i2⟩ := IdOf_eq hxs.later
        obtain ⟨m, hm⟩ : ∃ m, m = idE (laterE x) := ⟨_, rfl⟩
        rw [← hm] at i1 i2
        rw [cond_true, cond_true, v1, v2, Option.bind_some, Option.bind_some, s1, s2, Option.bind_some, Option.bind_some, l1, l2, Option.bind_some, Option.bind_some, i1, i2, Option.bind_some, Option.bind_some]
        cases hi : m == x.Id with
        | true => exact ⟨_, rfl, rfl, by simp, by simp⟩
        | false =>
          refine ⟨([txn s d { x with Sig := { x.Sig with Sum := m } }], 0), rfl, rfl, by simp, fun q hq => ?_⟩
          simp only [List.mem_cons, List.not_mem_nil, or_false] at hq
          subst hq
          refine txn_ok ⟨⟨hxs.prev, hxs.auth, hxs.allow, hxs.deny, hxs.users, hxs.kinds, hxs.room, hxs.sender, hxs.key, hxs.text, hxs.via, hxs.server, hxs.allows, hxs.denies, hxs.names⟩, .inr (.inl ?_)⟩
          simpa using hi
      | false =>
        rw [cond_false, cond_false]
        cases k3 : d.Kind == 3 with
        | true =>
          obtain ⟨s1, s2⟩ := Sign_eq ho s.Name
          obtain ⟨l1, l2⟩ := later_eq (ownE d.Event s.Name)
          obtain ⟨s3, s4⟩ := Sign_eq ho.later s.Name
          obtain ⟨x, hx⟩ : ∃ x, x = signE (ownE d.Event s.Name) s.Name := ⟨_, rfl⟩
          obtain ⟨y, hy⟩ : ∃ y, y = signE (laterE (ownE d.Event s.Name)) s.Name := ⟨_, rfl⟩
          have hxf : Forged s.Name x := hx ▸ sign_ok ho h1
          have hyf : Forged s.Name y := hy ▸ sign_ok ho.later h1
          rw [← hx] at s1 s2
          rw [← hy] at s3 s4
          refine ⟨([txn s d x, txn s d y], 0), ?_, ?_, by simp, fun q hq => ?_⟩
          · rw [cond_true, s1]; simp only [Option.bind_some, evil_transaction, l1, s3]; rfl
          · rw [cond_true, s2]; simp only [Option.bind_some, R33_transaction, l2, s4]; rfl
          · simp only [List.mem_cons, List.not_mem_nil, or_false] at hq
            rcases hq with rfl | rfl
            · exact txn_ok hxf
            · exact txn_ok hyf
        | false =>
          rw [cond_false, cond_false]
          cases k4 : d.Kind == 4 with
          | true =>
            obtain ⟨s1, s2⟩ := Sign_eq he s.Name
            obtain ⟨x, hx⟩ : ∃ x, x = signE d.Event s.Name := ⟨_, rfl⟩
            have hxf : Forged s.Name x := hx ▸ sign_ok he h1
            rw [← hx] at s1 s2
            rw [cond_true, cond_true, s1, s2]
            refine ⟨([txn s d x], 0), rfl, rfl, by simp, fun q hq => ?_⟩
            simp only [List.mem_cons, List.not_mem_nil, or_false] at hq
            subst hq; exact txn_ok hxf
          | false =>
            rw [cond_false, cond_false]
            cases k6 : d.Kind == 6 with
            | true =>
              obtain ⟨a1, _⟩ := Hash_eq he
              obtain ⟨a2, _⟩ := IdOf_eq (he.hash (hashE d.Event))
              obtain ⟨_, s2⟩ := Sign_eq he s0
              unfold signE at s2
              obtain ⟨m, hm⟩ : ∃ m, m = idE { d.Event with Hash := hashE d.Event } := ⟨_, rfl⟩
              obtain ⟨h, hh⟩ : ∃ h, h = hashE d.Event := ⟨_, rfl⟩
              rw [← hm] at a2 s2
              rw [← hh] at a1 a2 s2
              refine ⟨([{ zApiPacket with From := s.Name, To := d.To, Kind := 8, Room := d.Event.Room, Events := [{ d.Event with Hash := h, Id := m, Sig := zApiSig }] }], 0), ?_, ?_, by simp, fun q hq => ?_⟩
              · rw [cond_true, a1, Option.bind_some, a2]; rfl
              · rw [cond_true, s2]; rfl
              · simp only [List.mem_cons, List.not_mem_nil, or_false] at hq
                subst hq
                exact ⟨⟨_, rfl, ⟨⟨he.prev, he.auth, he.allow, he.deny, he.users, he.kinds, he.room, he.sender, he.key, he.text, he.via, by show s0.size ≤ 2000; decide, he.allows, he.denies, he.names⟩, .inr (.inr rfl)⟩⟩, rfl, rfl⟩
            | false => exact ⟨_, rfl, rfl, by simp, by simp⟩
end Go.Proofs.YtmegkokogomfnaaGreat
