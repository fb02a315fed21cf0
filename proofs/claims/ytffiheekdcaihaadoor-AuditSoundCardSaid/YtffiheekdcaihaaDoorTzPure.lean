/- The program's functions of data, as Lean functions. -/
import Derived.Test.YtffiheekdcaihaaDoorTzTypes
import Derived.Test.YtffiheekdcaihaaDoorDfwOwn
set_option linter.all false
namespace Go.Abs
set_option linter.unusedVariables false
def zfp (N : Nat) (p0 : zac) : Option (Int × Int × Int × Int) :=
  some (p0.Cpu, p0.Mem, p0.Gpu, p0.Lic)
def zfg (N : Nat) (r1 : (Int × Int × Int × Int)) : Nat → Int → Option Bool
  | 0, _ => none
  | kL0 + 1, x3 =>
    if (decide (x3 < 4)) = true then
      (at? [r1.1, r1.2.1, r1.2.2.1, r1.2.2.2] x3).bind fun a5 =>
      if ((decide (a5 < 0)) || (decide (a5 > 1048576))) = true then
        some false
      else
        zfg N r1 kL0 (IntKind.i64.wrap (x3 + 1))
    else
      some true
def vec_Right (N : Nat) (p0 : zac) : Option Bool :=
  (zfp N p0).bind fun r1 =>
  zfg N r1 N 0
def zc5 (N : Nat) (p0 : zab) : Nat → Int → Option Bool
  | 0, _ => none
  | kL0 + 1, x2 =>
    if (decide (x2 < (p0.Nodes.length : Int))) = true then
      (at? p0.Nodes x2).bind fun a4 =>
      (vec_Right N a4).bind fun r6 =>
      if (!r6) = true then
        some false
      else
        zc5 N p0 kL0 (IntKind.i64.wrap (x2 + 1))
    else
      some true
def zdO (N : Nat) (p0 : zab) : Option Bool :=
  if ((decide ((p0.Nodes.length : Int) < 1)) || (decide ((p0.Nodes.length : Int) > 16))) = true then
    some false
  else
    zc5 N p0 N 0
def zcT (N : Nat) (p0 : (List Int)) (p1 : Int) : Nat → Int → Int → Option Bool
  | 0, _, _ => none
  | kL0 + 1, x1, x2 =>
    if (decide (x2 < (p0.length : Int))) = true then
      (at? p0 x2).bind fun a4 =>
      if ((decide (a4 ≤ x1)) || (decide (a4 ≥ p1))) = true then
        some false
      else
        zcT N p0 p1 kL0 a4 (IntKind.i64.wrap (x2 + 1))
    else
      some true
def zek (N : Nat) (p0 : (List Int)) (p1 : Int) : Option Bool :=
  zcT N p0 p1 N (-1) 0
def zeJ (N : Nat) (x2 : Int) (cL0 : Int → Option Bool) (x8 : Bool) : Option Bool :=
  if x8 = true then
    some false
  else
    cL0 (IntKind.i64.wrap (x2 + 1))
def zcc (N : Nat) (p0 : zab) : Nat → Int → Option Bool
  | 0, _ => none
  | kL0 + 1, x2 =>
    if (decide (x2 < (p0.Parts.length : Int))) = true then
      (at? p0.Parts x2).bind fun a4 =>
      if (decide ((a4.length : Int) < 1)) = true then
        zeJ N x2 (zcc N p0 kL0) true
      else
        (zek N a4 (p0.Nodes.length : Int)).bind fun r10 =>
        zeJ N x2 (zcc N p0 kL0) (!r10)
    else
      some true
def zdM (N : Nat) (p0 : zab) : Option Bool :=
  if ((decide ((p0.Parts.length : Int) < 1)) || (decide ((p0.Parts.length : Int) > 8))) = true then
    some false
  else
    zcc N p0 N 0
def zcK (N : Nat) (p0 : ByteArray) (p1 : Int) (p2 : Int) (p3 : Int) : Option (ByteArray × Int × Int × Int) :=
  some (p0, p2, p1, p3)
def zcH (N : Nat) (x2 : Int) (a4 : zaq) (cL0 : Int → Option Bool) : Nat → Int → Option Bool
  | 0, _ => none
  | kL2 + 1, x10 =>
    if (decide (x10 < 3)) = true then
      (at? [a4.MaxJobs, a4.MaxRun, a4.MaxUser] x10).bind fun a12 =>
      if ((decide (a12 < 1)) || (decide (a12 > 256))) = true then
        some false
      else
        zcH N x2 a4 cL0 kL2 (IntKind.i64.wrap (x10 + 1))
    else
      if ((decide (a4.Qos < 0)) || (decide (a4.Qos > 100))) = true then
        some false
      else
        cL0 (IntKind.i64.wrap (x2 + 1))
def zdA (N : Nat) (x2 : Int) (a4 : zaq) (cL0 : Int → Option Bool) (x8 : Bool) : Option Bool :=
  if x8 = true then
    some false
  else
    zcH N x2 a4 cL0 N 0
def za0 (N : Nat) (p0 : zab) : Nat → Int → Option Bool
  | 0, _ => none
  | kL0 + 1, x2 =>
    if (decide (x2 < (p0.Queues.length : Int))) = true then
      (at? p0.Queues x2).bind fun a4 =>
      if (decide (a4.Part < 0)) = true then
        zdA N x2 a4 (za0 N p0 kL0) true
      else
        if (decide (a4.Part ≥ (p0.Parts.length : Int))) = true then
          zdA N x2 a4 (za0 N p0 kL0) true
        else
          (zek N a4.Users p0.Users).bind fun r16 =>
          zdA N x2 a4 (za0 N p0 kL0) (!r16)
    else
      some true
def zdf (N : Nat) (p0 : zab) : Option Bool :=
  if ((decide ((p0.Queues.length : Int) < 1)) || (decide ((p0.Queues.length : Int) > 8))) = true then
    some false
  else
    za0 N p0 N 0
def zcA (N : Nat) (p0 : za6) : Nat → Int → Option Bool
  | 0, _ => none
  | kL0 + 1, x1 =>
    if (decide (x1 < 4)) = true then
      (at? [p0.Age, p0.Size, p0.Qos, p0.Share] x1).bind fun a3 =>
      if ((decide (a3 < 0)) || (decide (a3 > 1000))) = true then
        some false
      else
        zcA N p0 kL0 (IntKind.i64.wrap (x1 + 1))
    else
      some true
def zer (N : Nat) (p0 : za6) : Option Bool :=
  zcA N p0 N 0
def spec_rules (N : Nat) (p0 : zab) : Option (ByteArray × zab × ByteArray × ByteArray × Int × Int × Int × ByteArray × ByteArray × ByteArray × Int × Int × Int × ByteArray × ByteArray × Int × Int × Int × ByteArray × Int × Int × Int × ByteArray × Int × Int × Int × ByteArray × Int × Int × Int × ByteArray × Int × Int × Int × ByteArray × Int × Int × Int × ByteArray × Int × Int × Int × ByteArray × Int × Int × Int) :=
  (zcK N (⟨#[85, 115, 101, 114, 115]⟩ : ByteArray) p0.Users 1 8).bind fun (r1, r2, r3, r4) =>
  (zcK N (⟨#[68, 101, 99, 97, 121]⟩ : ByteArray) p0.Decay 1 16).bind fun (r6, r7, r8, r9) =>
  (zcK N (⟨#[74, 111, 98, 115]⟩ : ByteArray) p0.Jobs 1 256).bind fun (r11, r12, r13, r14) =>
  (zcK N (⟨#[73, 100, 115]⟩ : ByteArray) p0.Ids 1 1048576).bind fun (r16, r17, r18, r19) =>
  (zcK N (⟨#[86, 101, 114, 115, 105, 111, 110, 115]⟩ : ByteArray) p0.Versions 1 65536).bind fun (r21, r22, r23, r24) =>
  (zcK N (⟨#[76, 105, 110, 103, 101, 114]⟩ : ByteArray) p0.Linger 0 65536).bind fun (r26, r27, r28, r29) =>
  (zcK N (⟨#[75, 101, 101, 112]⟩ : ByteArray) p0.Keep 1 16).bind fun (r31, r32, r33, r34) =>
  (zcK N (⟨#[73, 110]⟩ : ByteArray) p0.In 1 8).bind fun (r36, r37, r38, r39) =>
  (zcK N (⟨#[79, 117, 116]⟩ : ByteArray) p0.Out 1 16).bind fun (r41, r42, r43, r44) =>
  (zcK N (⟨#[67, 97, 99, 104, 101]⟩ : ByteArray) p0.Cache 0 16).bind fun (r46, r47, r48, r49) =>
  some ((⟨#[78, 111, 100, 101, 115]⟩ : ByteArray), p0, (⟨#[80, 97, 114, 116, 115]⟩ : ByteArray), r1, r2, r3, r4, (⟨#[81, 117, 101, 117, 101, 115]⟩ : ByteArray), (⟨#[87, 101, 105, 103, 104, 116, 115]⟩ : ByteArray), r6, r7, r8, r9, (⟨#[77, 111, 100, 101]⟩ : ByteArray), r11, r12, r13, r14, r16, r17, r18, r19, r21, r22, r23, r24, r26, r27, r28, r29, r31, r32, r33, r34, r36, r37, r38, r39, r41, r42, r43, r44, r46, r47, r48, r49)
def zfv (N : Nat) (p0 : zab) : Option Bool :=
  (zdO N p0).bind fun r1 =>
  some r1
def zfx (N : Nat) (p0 : zab) : Option Bool :=
  (zdM N p0).bind fun r1 =>
  some r1
def zbK (N : Nat) (p0 : Int) (p1 : Int) (p2 : Int) : Option Bool :=
  some ((decide (p0 ≤ p1)) && (decide (p1 ≤ p2)))
def zfy (N : Nat) (p0 : zab) : Option Bool :=
  (zdf N p0).bind fun r1 =>
  some r1
def zfw (N : Nat) (p0 : zab) : Option Bool :=
  (zer N p0.Weights).bind fun r1 =>
  some r1
def zfd (N : Nat) (p0 : zab) : Option Bool :=
  some ((p0.Mode == 1) || (p0.Mode == 2))
def spec_Flaw (N : Nat) (p0 : zab) : Option ByteArray :=
  (spec_rules N p0).bind fun (r1, r2, r3, r4, r5, r6, r7, r8, r9, r10, r11, r12, r13, r14, r15, r16, r17, r18, r19, r20, r21, r22, r23, r24, r25, r26, r27, r28, r29, r30, r31, r32, r33, r34, r35, r36, r37, r38, r39, r40, r41, r42, r43, r44, r45, r46) =>
  (zfv N r2).bind fun r49 =>
  if (!r49) = true then
    some r1
  else
    (zfx N r2).bind fun r53 =>
    if (!r53) = true then
      some r3
    else
      (zbK N r5 r6 r7).bind fun r57 =>
      if (!r57) = true then
        some r4
      else
        (zfy N r2).bind fun r61 =>
        if (!r61) = true then
          some r8
        else
          (zfw N r2).bind fun r65 =>
          if (!r65) = true then
            some r9
          else
            (zbK N r11 r12 r13).bind fun r69 =>
            if (!r69) = true then
              some r10
            else
              (zfd N r2).bind fun r73 =>
              if (!r73) = true then
                some r14
              else
                (zbK N r16 r17 r18).bind fun r77 =>
                if (!r77) = true then
                  some r15
                else
                  (zbK N r20 r21 r22).bind fun r81 =>
                  if (!r81) = true then
                    some r19
                  else
                    (zbK N r24 r25 r26).bind fun r85 =>
                    if (!r85) = true then
                      some r23
                    else
                      (zbK N r28 r29 r30).bind fun r89 =>
                      if (!r89) = true then
                        some r27
                      else
                        (zbK N r32 r33 r34).bind fun r93 =>
                        if (!r93) = true then
                          some r31
                        else
                          (zbK N r36 r37 r38).bind fun r97 =>
                          if (!r97) = true then
                            some r35
                          else
                            (zbK N r40 r41 r42).bind fun r101 =>
                            if (!r101) = true then
                              some r39
                            else
                              (zbK N r44 r45 r46).bind fun r105 =>
                              if (!r105) = true then
                                some r43
                              else
                                some (⟨#[]⟩ : ByteArray)
def spec_Right (N : Nat) (p0 : zab) : Option Bool :=
  (spec_Flaw N p0).bind fun r1 =>
  some (r1.toList == (⟨#[]⟩ : ByteArray).toList)
def zcZ (N : Nat) (p0 : Int) (p1 : Int) (p2 : Int) : Option Bool :=
  some ((decide (p1 ≤ p0)) && (decide (p0 ≤ p2)))
def zdx (N : Nat) (p0 : zad) : Nat → Int → Option Bool
  | 0, _ => none
  | kL0 + 1, x2 =>
    if (decide (x2 < (p0.After.length : Int))) = true then
      (at? p0.After x2).bind fun a4 =>
      (zcZ N a4.Job 1 (IntKind.i64.wrap (p0.Id - 1))).bind fun r6 =>
      if (!r6) = true then
        some false
      else
        zdx N p0 kL0 (IntKind.i64.wrap (x2 + 1))
    else
      some true
def zei (N : Nat) (p0 : zad) : Option Bool :=
  if (decide ((p0.After.length : Int) > 4)) = true then
    some false
  else
    zdx N p0 N 0
def life_Over (N : Nat) (p0 : Int) : Option Bool :=
  some ((p0 == 5) || (p0 == 6))
def life_Name (N : Nat) (p0 : Int) : Option ByteArray :=
  if (p0 == 1) = true then
    some (⟨#[113, 117, 101, 117, 101, 100]⟩ : ByteArray)
  else
    if (p0 == 2) = true then
      some (⟨#[104, 101, 108, 100]⟩ : ByteArray)
    else
      if (p0 == 3) = true then
        some (⟨#[114, 117, 110, 110, 105, 110, 103]⟩ : ByteArray)
      else
        if (p0 == 4) = true then
          some (⟨#[101, 120, 105, 116, 105, 110, 103]⟩ : ByteArray)
        else
          if (p0 == 5) = true then
            some (⟨#[99, 111, 109, 112, 108, 101, 116, 101, 100]⟩ : ByteArray)
          else
            if (p0 == 6) = true then
              some (⟨#[99, 97, 110, 99, 101, 108, 108, 101, 100]⟩ : ByteArray)
            else
              some (⟨#[]⟩ : ByteArray)
def life_Waits (N : Nat) (p0 : Int) : Option Bool :=
  some ((p0 == 1) || (p0 == 2))
def zes (N : Nat) (p0 : zad) (x10 : Bool) : Option Bool :=
  if x10 = true then
    some false
  else
    if (p0.Ok && ((p0.State != 4) && (p0.State != 5))) = true then
      some false
    else
      if (p0.Kill && ((p0.State != 4) && (p0.State != 6))) = true then
        some false
      else
        some true
def zet (N : Nat) (p0 : zad) (x6 : Bool) : Option Bool :=
  if x6 = true then
    some false
  else
    if (p0.End != 0) = true then
      (life_Over N p0.State).bind fun r14 =>
      zes N p0 (!r14)
    else
      zes N p0 false
def zeK (N : Nat) (p0 : zad) : Option Bool :=
  (life_Name N p0.State).bind fun r1 =>
  if (r1.toList == (⟨#[]⟩ : ByteArray).toList) = true then
    some false
  else
    if (p0.Start != 0) = true then
      (life_Waits N p0.State).bind fun r16 =>
      zet N p0 r16
    else
      zet N p0 false
def zbT (N : Nat) (x27 : Bool) : Option Bool :=
  some x27
def job_Right (N : Nat) (p0 : zad) : Option Bool :=
  (zcZ N p0.Id 1 1048576).bind fun r28 =>
  if r28 = true then
    (zcZ N p0.User 0 7).bind fun r30 =>
    if r30 = true then
      (zcZ N p0.Queue 0 7).bind fun r32 =>
      if r32 = true then
        (zcZ N p0.Many 1 64).bind fun r34 =>
        if r34 = true then
          (vec_Right N p0.Need).bind fun r36 =>
          if r36 = true then
            if (!decide (p0.Need = ({ Cpu := 0, Mem := 0, Gpu := 0, Lic := 0 } : zac))) = true then
              (zcZ N p0.Wall 1 65536).bind fun r38 =>
              if r38 = true then
                (zei N p0).bind fun r40 =>
                if r40 = true then
                  (zcZ N p0.Version 1 281474976710656).bind fun r42 =>
                  if r42 = true then
                    (zcZ N p0.Born 0 1099511627776).bind fun r44 =>
                    if r44 = true then
                      (zcZ N p0.Start 0 1099511627776).bind fun r46 =>
                      if r46 = true then
                        (zcZ N p0.End 0 1099511627776).bind fun r48 =>
                        if r48 = true then
                          (zcZ N p0.Array 0 p0.Id).bind fun r50 =>
                          if r50 = true then
                            (zeK N p0).bind fun r52 =>
                            zbT N r52
                          else
                            zbT N false
                        else
                          zbT N false
                      else
                        zbT N false
                    else
                      zbT N false
                  else
                    zbT N false
                else
                  zbT N false
              else
                zbT N false
            else
              zbT N false
          else
            zbT N false
        else
          zbT N false
      else
        zbT N false
    else
      zbT N false
  else
    zbT N false
def zem (N : Nat) (p0 : (List zak)) (p1 : Int) : Nat → Int → Int → Option Bool
  | 0, _, _ => none
  | kL0 + 1, x1, x2 =>
    if (decide (x2 < (p0.length : Int))) = true then
      (at? p0 x2).bind fun a4 =>
      if ((decide (a4.Node ≤ x1)) || ((decide (a4.Node ≥ p1)) || ((decide (a4.Many < 1)) || (decide (a4.Many > 64))))) = true then
        some false
      else
        zem N p0 p1 kL0 a4.Node (IntKind.i64.wrap (x2 + 1))
    else
      some true
def zfs (N : Nat) (p0 : (List zak)) (p1 : Int) : Option Bool :=
  zem N p0 p1 N (-1) 0
def ze2 (N : Nat) (y16 : (List (Int × (List Int)))) (x17 : Int) (a19 : zai) (cL1 : Int → (List (Int × (List Int))) → Option ((Option zaa) × Bool)) (x25 : Bool) : Option ((Option zaa) × Bool) :=
  if x25 = true then
    some (none, false)
  else
    oel (mget y16 a19.Job)
      (cL1 (IntKind.i64.wrap (x17 + 1)) (mset y16 a19.Job ([x17] : List Int)))
      fun o27 =>
        none
def zcr (N : Nat) (p0 : zab) (p1 : zag) (y4 : (List (Int × Int))) : Nat → Int → (List (Int × (List Int))) → Option ((Option zaa) × Bool)
  | 0, _, _ => none
  | kL1 + 1, x17, y16 =>
    if (decide (x17 < (p1.Allocs.length : Int))) = true then
      (at? p1.Allocs x17).bind fun a19 =>
      (vec_Right N a19.Need).bind fun r28 =>
      if (!r28) = true then
        ze2 N y16 x17 a19 (zcr N p0 p1 y4 kL1) true
      else
        (zfs N a19.Shares (p0.Nodes.length : Int)).bind fun r30 =>
        ze2 N y16 x17 a19 (zcr N p0 p1 y4 kL1) (!r30)
    else
      some ((some ({ f_s := p0, f_st := p1, f_jobs := y4, f_allocs := y16 } : zaa)), true)
def zd8 (N : Nat) (p0 : zab) (p1 : zag) : Nat → Int → (List (Int × Int)) → Option ((Option zaa) × Bool)
  | 0, _, _ => none
  | kL0 + 1, x5, y4 =>
    if (decide (x5 < (p1.Jobs.length : Int))) = true then
      (at? p1.Jobs x5).bind fun a7 =>
      oel (mget y4 a7.Id)
        ((job_Right N a7).bind fun r13 =>
          if (!r13) = true then
            some (none, false)
          else
            zd8 N p0 p1 kL0 (IntKind.i64.wrap (x5 + 1)) (mset y4 a7.Id x5))
        fun o9 =>
          some (none, false)
    else
      zcr N p0 p1 y4 N 0 ([] : List (Int × (List Int)))
def zeY (N : Nat) (p0 : zab) (p1 : zag) : Option ((Option zaa) × Bool) :=
  (spec_Right N p0).bind fun r1 =>
  if (!r1) = true then
    some (none, false)
  else
    zd8 N p0 p1 N 0 ([] : List (Int × Int))
def zeX (N : Nat) (r1 : (Int × Int × Int × Int)) (r3 : (Int × Int × Int × Int)) : Nat → Int → Option Bool
  | 0, _ => none
  | kL0 + 1, x5 =>
    if (decide (x5 < 4)) = true then
      (at? [r1.1, r1.2.1, r1.2.2.1, r1.2.2.2] x5).bind fun a7 =>
      (at? [r3.1, r3.2.1, r3.2.2.1, r3.2.2.2] x5).bind fun a9 =>
      if (decide (a7 > a9)) = true then
        some false
      else
        zeX N r1 r3 kL0 (IntKind.i64.wrap (x5 + 1))
    else
      some true
def vec_Fits (N : Nat) (p0 : zac) (p1 : zac) : Option Bool :=
  (zfp N p0).bind fun r1 =>
  (zfp N p1).bind fun r3 =>
  zeX N r1 r3 N 0
def zbU (N : Nat) (x4 : Int) (a6 : zai) (cL0 : Int → (List zac) → Option (List Int)) : Nat → Int → (List zac) → Option (List Int)
  | 0, _, _ => none
  | kL1 + 1, x9, y8 =>
    if (decide (x9 < (a6.Shares.length : Int))) = true then
      (at? a6.Shares x9).bind fun a11 =>
      (at? y8 a11.Node).bind fun a13 =>
      zbU N x4 a6 cL0 kL1 (IntKind.i64.wrap (x9 + 1)) (y8.set a11.Node.toNat ({ Cpu := (IntKind.i64.wrap (a13.Cpu + (IntKind.i64.wrap (a6.Need.Cpu * a11.Many)))), Mem := (IntKind.i64.wrap (a13.Mem + (IntKind.i64.wrap (a6.Need.Mem * a11.Many)))), Gpu := (IntKind.i64.wrap (a13.Gpu + (IntKind.i64.wrap (a6.Need.Gpu * a11.Many)))), Lic := (IntKind.i64.wrap (a13.Lic + (IntKind.i64.wrap (a6.Need.Lic * a11.Many)))) } : zac))
    else
      cL0 (IntKind.i64.wrap (x4 + 1)) y8
def zdR (N : Nat) (x16 : Int) (cL2 : Int → (List Int) → Option (List Int)) (y18 : (List Int)) : Option (List Int) :=
  cL2 (IntKind.i64.wrap (x16 + 1)) y18
def zbt (N : Nat) (p0 : zaa) (y3 : (List zac)) : Nat → Int → (List Int) → Option (List Int)
  | 0, _, _ => none
  | kL2 + 1, x16, y15 =>
    if (decide (x16 < (y3.length : Int))) = true then
      (at? y3 x16).bind fun a19 =>
      (at? p0.f_s.Nodes x16).bind fun a21 =>
      (vec_Fits N a19 a21).bind fun r23 =>
      if (!r23) = true then
        (app? y15 ([x16] : List Int)).bind fun z26 =>
        zdR N x16 (zbt N p0 y3 kL2) z26
      else
        zdR N x16 (zbt N p0 y3 kL2) y15
    else
      some y15
def zbs (N : Nat) (p0 : zaa) : Nat → Int → (List zac) → Option (List Int)
  | 0, _, _ => none
  | kL0 + 1, x4, y3 =>
    if (decide (x4 < (p0.f_st.Allocs.length : Int))) = true then
      (at? p0.f_st.Allocs x4).bind fun a6 =>
      zbU N x4 a6 (zbs N p0 kL0) N 0 y3
    else
      zbt N p0 y3 N 0 ([] : List Int)
def zcB (N : Nat) (p0 : zaa) : Option (List Int) :=
  (mk? ({ Cpu := 0, Mem := 0, Gpu := 0, Lic := 0 } : zac) (p0.f_s.Nodes.length : Int) (p0.f_s.Nodes.length : Int)).bind fun z1 =>
  zbs N p0 N 0 z1
def zeQ (N : Nat) (p0 : Int) : Option Bool :=
  some ((p0 == 3) || (p0 == 4))
def job_Until_j0 (N : Nat) (p0 : zad) (x5 : Bool) : Option Int :=
  if x5 = true then
    some 0
  else
    some (IntKind.i64.wrap (p0.Start + p0.Wall))
def job_Until (N : Nat) (p0 : zad) : Option Int :=
  (job_Right N p0).bind fun r7 =>
  if (!r7) = true then
    job_Until_j0 N p0 true
  else
    (zeQ N p0.State).bind fun r9 =>
    job_Until_j0 N p0 (!r9)
def zdQ (N : Nat) (x2 : Int) (cL0 : Int → (List Int) → Option (List Int)) (y4 : (List Int)) : Option (List Int) :=
  cL0 (IntKind.i64.wrap (x2 + 1)) y4
def zdJ (N : Nat) (y1 : (List Int)) (x2 : Int) (a5 : zad) (cL0 : Int → (List Int) → Option (List Int)) (x11 : Bool) : Option (List Int) :=
  if x11 = true then
    (app? y1 ([a5.Id] : List Int)).bind fun z13 =>
    zdQ N x2 cL0 z13
  else
    zdQ N x2 cL0 y1
def za7 (N : Nat) (p0 : zaa) : Nat → Int → (List Int) → Option (List Int)
  | 0, _, _ => none
  | kL0 + 1, x2, y1 =>
    if (decide (x2 < (p0.f_st.Jobs.length : Int))) = true then
      (at? p0.f_st.Jobs x2).bind fun a5 =>
      (zeQ N a5.State).bind fun r15 =>
      if r15 = true then
        (job_Until N a5).bind fun r17 =>
        zdJ N y1 x2 a5 (za7 N p0 kL0) (decide (r17 ≤ p0.f_st.Now))
      else
        zdJ N y1 x2 a5 (za7 N p0 kL0) false
    else
      some y1
def zda (N : Nat) (p0 : zaa) : Option (List Int) :=
  za7 N p0 N 0 ([] : List Int)
def zbZ (N : Nat) (x4 : Int) (cL0 : Int → (List Int) → Option (List Int)) (y6 : (List Int)) : Option (List Int) :=
  cL0 (IntKind.i64.wrap (x4 + 1)) y6
def zbF (N : Nat) (p0 : zaa) (x4 : Int) (a7 : zai) (o9 : Int) (cL0 : Int → (List Int) → Option (List Int)) : Nat → Int → (List Int) → Option (List Int)
  | 0, _, _ => none
  | kL3 + 1, x17, y16 =>
    if (decide (x17 < (a7.Shares.length : Int))) = true then
      (at? a7.Shares x17).bind fun a19 =>
      (at? y16 a19.Node).bind fun a21 =>
      (at? p0.f_st.Jobs o9).bind fun a23 =>
      (job_Until N a23).bind fun r25 =>
      (at? y16 a19.Node).bind fun a27 =>
      zbF N p0 x4 a7 o9 cL0 kL3 (IntKind.i64.wrap (x17 + 1)) (y16.set a19.Node.toNat (if r25 > a21 then r25 else a21))
    else
      zbZ N x4 cL0 y16
def zc8 (N : Nat) (p0 : zaa) (y3 : (List Int)) (x4 : Int) (a7 : zai) (o9 : Int) (cL0 : Int → (List Int) → Option (List Int)) (x14 : Bool) : Option (List Int) :=
  if x14 = true then
    zbZ N x4 cL0 y3
  else
    zbF N p0 x4 a7 o9 cL0 N 0 y3
def zc9 (N : Nat) (p0 : zaa) (x4 : Int) (a7 : zai) (cL0 : Int → (List Int) → Option (List Int)) : Nat → Int → (List Int) → Option (List Int)
  | 0, _, _ => none
  | kL5 + 1, x40, y39 =>
    if (decide (x40 < (a7.Shares.length : Int))) = true then
      (at? a7.Shares x40).bind fun a42 =>
      (at? y39 a42.Node).bind fun a44 =>
      (at? p0.f_st.Jobs 0).bind fun a46 =>
      (job_Until N a46).bind fun r48 =>
      (at? y39 a42.Node).bind fun a50 =>
      zc9 N p0 x4 a7 cL0 kL5 (IntKind.i64.wrap (x40 + 1)) (y39.set a42.Node.toNat (if r48 > a44 then r48 else a44))
    else
      zbZ N x4 cL0 y39
def zef (N : Nat) (p0 : zaa) (y3 : (List Int)) (x4 : Int) (a7 : zai) (cL0 : Int → (List Int) → Option (List Int)) (x37 : Bool) : Option (List Int) :=
  if x37 = true then
    zbZ N x4 cL0 y3
  else
    zc9 N p0 x4 a7 cL0 N 0 y3
def zdc (N : Nat) (x57 : Int) (cL6 : Int → (List Int) → Option (List Int)) (y59 : (List Int)) : Option (List Int) :=
  cL6 (IntKind.i64.wrap (x57 + 1)) y59
def zb0 (N : Nat) (y56 : (List Int)) (x57 : Int) (a60 : zam) (cL6 : Int → (List Int) → Option (List Int)) (x66 : Bool) : Option (List Int) :=
  if x66 = true then
    (app? y56 ([a60.Id] : List Int)).bind fun z68 =>
    zdc N x57 cL6 z68
  else
    zdc N x57 cL6 y56
def zaP (N : Nat) (p0 : zaa) (y3 : (List Int)) : Nat → Int → (List Int) → Option (List Int)
  | 0, _, _ => none
  | kL6 + 1, x57, y56 =>
    if (decide (x57 < (p0.f_st.Books.length : Int))) = true then
      (at? p0.f_st.Books x57).bind fun a60 =>
      if (decide (a60.Node ≥ 0)) = true then
        if (decide (a60.Node < (y3.length : Int))) = true then
          (at? y3 a60.Node).bind fun a70 =>
          if (decide (a70 > 0)) = true then
            (at? y3 a60.Node).bind fun a72 =>
            zb0 N y56 x57 a60 (zaP N p0 y3 kL6) (decide (a72 > a60.From))
          else
            zb0 N y56 x57 a60 (zaP N p0 y3 kL6) false
        else
          zb0 N y56 x57 a60 (zaP N p0 y3 kL6) false
      else
        zb0 N y56 x57 a60 (zaP N p0 y3 kL6) false
    else
      some y56
def zaB (N : Nat) (p0 : zaa) : Nat → Int → (List Int) → Option (List Int)
  | 0, _, _ => none
  | kL0 + 1, x4, y3 =>
    if (decide (x4 < (p0.f_st.Allocs.length : Int))) = true then
      (at? p0.f_st.Allocs x4).bind fun a7 =>
      oel (mget p0.f_jobs a7.Job)
        (if (!false) = true then
            zef N p0 y3 x4 a7 (zaB N p0 kL0) true
          else
            (at? p0.f_st.Jobs 0).bind fun a52 =>
            (zeQ N a52.State).bind fun r54 =>
            zef N p0 y3 x4 a7 (zaB N p0 kL0) (!r54))
        fun o9 =>
          if (!true) = true then
            zc8 N p0 y3 x4 a7 o9 (zaB N p0 kL0) true
          else
            (at? p0.f_st.Jobs o9).bind fun a29 =>
            (zeQ N a29.State).bind fun r31 =>
            zc8 N p0 y3 x4 a7 o9 (zaB N p0 kL0) (!r31)
    else
      zaP N p0 y3 N 0 ([] : List Int)
def zb8 (N : Nat) (p0 : zaa) : Option (List Int) :=
  (mk? (0 : Int) (p0.f_s.Nodes.length : Int) (p0.f_s.Nodes.length : Int)).bind fun z1 =>
  zaB N p0 N 0 z1
def ze9 (N : Nat) (p0 : Int) (p1 : Int) (p2 : Int) : Option Int :=
  if (decide (p0 < p1)) = true then
    some p1
  else
    if (decide (p0 > p2)) = true then
      some p2
    else
      some p0
def zeo (N : Nat) (p0 : (List zak)) : Nat → Int → Int → Option Int
  | 0, _, _ => none
  | kL0 + 1, x1, x2 =>
    if (decide (x2 < (p0.length : Int))) = true then
      (at? p0 x2).bind fun a4 =>
      (ze9 N a4.Many 0 64).bind fun r6 =>
      zeo N p0 kL0 (IntKind.i64.wrap (x1 + r6)) (IntKind.i64.wrap (x2 + 1))
    else
      some x1
def place_Total (N : Nat) (p0 : (List zak)) : Option Int :=
  zeo N p0 N 0 0
def zce (N : Nat) (p0 : (List Int)) (p1 : Int) : Nat → Int → Option Int
  | 0, _ => none
  | kL0 + 1, x1 =>
    if (decide (x1 < (p0.length : Int))) = true then
      (at? p0 x1).bind fun a3 =>
      if (p1 == a3) = true then
        some x1
      else
        zce N p0 p1 kL0 (IntKind.i64.wrap (x1 + 1))
    else
      some (-1)
def zc0 (N : Nat) (p0 : (List Int)) (p1 : Int) : Option Int :=
  zce N p0 p1 N 0
def zbM (N : Nat) (p0 : (List Int)) (p1 : Int) : Option Bool :=
  (zc0 N p0 p1).bind fun r1 =>
  some (decide (r1 ≥ 0))
def zbJ (N : Nat) (a8 : zai) (a16 : (List Int)) : Nat → Int → Option Bool
  | 0, _ => none
  | kL1 + 1, x18 =>
    if (decide (x18 < (a8.Shares.length : Int))) = true then
      (at? a8.Shares x18).bind fun a20 =>
      (zbM N a16 a20.Node).bind fun r22 =>
      if (!r22) = true then
        some false
      else
        zbJ N a8 a16 kL1 (IntKind.i64.wrap (x18 + 1))
    else
      some true
def zdi (N : Nat) (p0 : zaa) (p1 : zad) (a8 : zai) (x12 : Bool) : Option Bool :=
  if x12 = true then
    some false
  else
    (at? p0.f_s.Queues p1.Queue).bind fun a14 =>
    (at? p0.f_s.Parts a14.Part).bind fun a16 =>
    zbJ N a8 a16 N 0
def zcG (N : Nat) (p0 : zaa) (p1 : zad) : Option Bool :=
  oel (mget p0.f_allocs p1.Id)
    ((zeQ N p1.State).bind fun r27 =>
      if (!r27) = true then
        some (0 == 0)
      else
        if ((0 != 1) || (decide (p1.Queue ≥ (p0.f_s.Queues.length : Int)))) = true then
          some false
        else
          none)
    fun o1 =>
      (zeQ N p1.State).bind fun r2 =>
      if (!r2) = true then
        some ((o1.length : Int) == 0)
      else
        if (((o1.length : Int) != 1) || (decide (p1.Queue ≥ (p0.f_s.Queues.length : Int)))) = true then
          some false
        else
          (at? o1 0).bind fun a6 =>
          (at? p0.f_st.Allocs a6).bind fun a8 =>
          if (!decide (a8.Need = p1.Need)) = true then
            zdi N p0 p1 a8 true
          else
            (place_Total N a8.Shares).bind fun r25 =>
            zdi N p0 p1 a8 (r25 != p1.Many)
def zed (N : Nat) (x2 : Int) (cL0 : Int → (List Int) → Option (List Int)) (y4 : (List Int)) : Option (List Int) :=
  cL0 (IntKind.i64.wrap (x2 + 1)) y4
def zbz (N : Nat) (p0 : zaa) : Nat → Int → (List Int) → Option (List Int)
  | 0, _, _ => none
  | kL0 + 1, x2, y1 =>
    if (decide (x2 < (p0.f_st.Jobs.length : Int))) = true then
      (at? p0.f_st.Jobs x2).bind fun a5 =>
      (zcG N p0 a5).bind fun r7 =>
      if (!r7) = true then
        (app? y1 ([a5.Id] : List Int)).bind fun z10 =>
        zed N x2 (zbz N p0 kL0) z10
      else
        zed N x2 (zbz N p0 kL0) y1
    else
      some y1
def zdp (N : Nat) (p0 : zaa) : Option (List Int) :=
  zbz N p0 N 0 ([] : List Int)
def zb9 (N : Nat) (x2 : Int) (cL0 : Int → (List Int) → Option (List Int)) (y4 : (List Int)) : Option (List Int) :=
  cL0 (IntKind.i64.wrap (x2 + 1)) y4
def zaV (N : Nat) (p0 : zaa) : Nat → Int → (List Int) → Option (List Int)
  | 0, _, _ => none
  | kL0 + 1, x2, y1 =>
    if (decide (x2 < (p0.f_st.Allocs.length : Int))) = true then
      (at? p0.f_st.Allocs x2).bind fun a5 =>
      oel (mget p0.f_jobs a5.Job)
        (if (!false) = true then
            (app? y1 ([a5.Job] : List Int)).bind fun z12 =>
            zb9 N x2 (zaV N p0 kL0) z12
          else
            zb9 N x2 (zaV N p0 kL0) y1)
        fun o7 =>
          if (!true) = true then
            (app? y1 ([a5.Job] : List Int)).bind fun z9 =>
            zb9 N x2 (zaV N p0 kL0) z9
          else
            zb9 N x2 (zaV N p0 kL0) y1
    else
      some y1
def zcO (N : Nat) (p0 : zaa) : Option (List Int) :=
  zaV N p0 N 0 ([] : List Int)
def zeU (N : Nat) (x3 : Bool) : Option Bool :=
  some x3
def ze4 (N : Nat) (p0 : zad) (p1 : Int) : Option Bool :=
  if (p0.Queue == p1) = true then
    (zeQ N p0.State).bind fun r4 =>
    zeU N r4
  else
    zeU N false
def zbQ (N : Nat) (x2 : Int) (cL0 : Int → Int → Option Int) (x4 : Int) : Option Int :=
  cL0 x4 (IntKind.i64.wrap (x2 + 1))
def zaM (N : Nat) (p0 : (List zad)) (p1c0 : Int) : Nat → Int → Int → Option Int
  | 0, _, _ => none
  | kL0 + 1, x1, x2 =>
    if (decide (x2 < (p0.length : Int))) = true then
      (at? p0 x2).bind fun a5 =>
      (ze4 N a5 p1c0).bind fun r7 =>
      if r7 = true then
        zbQ N x2 (zaM N p0 p1c0 kL0) (IntKind.i64.wrap (x1 + 1))
      else
        zbQ N x2 (zaM N p0 p1c0 kL0) x1
    else
      some x1
def zbN (N : Nat) (p0 : (List zad)) (p1c0 : Int) : Option Int :=
  zaM N p0 p1c0 N 0 0
def zfe (N : Nat) (p0 : (List zad)) (p1 : Int) : Option Int :=
  (zbN N p0 p1).bind fun r1 =>
  some r1
def zdh (N : Nat) (x2 : Int) (cL0 : Int → (List Int) → Option (List Int)) (y4 : (List Int)) : Option (List Int) :=
  cL0 (IntKind.i64.wrap (x2 + 1)) y4
def zbg (N : Nat) (p0 : zaa) : Nat → Int → (List Int) → Option (List Int)
  | 0, _, _ => none
  | kL0 + 1, x2, y1 =>
    if (decide (x2 < (p0.f_s.Queues.length : Int))) = true then
      (at? p0.f_s.Queues x2).bind fun a5 =>
      (zfe N p0.f_st.Jobs x2).bind fun r7 =>
      if (decide (r7 > a5.MaxRun)) = true then
        (app? y1 ([x2] : List Int)).bind fun z10 =>
        zdh N x2 (zbg N p0 kL0) z10
      else
        zdh N x2 (zbg N p0 kL0) y1
    else
      some y1
def zcQ (N : Nat) (p0 : zaa) : Option (List Int) :=
  zbg N p0 N 0 ([] : List Int)
def zfh (N : Nat) (x3 : Bool) : Option Bool :=
  some x3
def quota_Of_1 (N : Nat) (p0 : zad) (p1 : Int) (p2 : Int) : Option Bool :=
  if (p0.Queue == p1) = true then
    if (p0.User == p2) = true then
      (zeQ N p0.State).bind fun r4 =>
      zfh N r4
    else
      zfh N false
  else
    zfh N false
def zcv (N : Nat) (x2 : Int) (cL0 : Int → Int → Option Int) (x4 : Int) : Option Int :=
  cL0 x4 (IntKind.i64.wrap (x2 + 1))
def zaT (N : Nat) (p0 : (List zad)) (p1c0 : Int) (p1c1 : Int) : Nat → Int → Int → Option Int
  | 0, _, _ => none
  | kL0 + 1, x1, x2 =>
    if (decide (x2 < (p0.length : Int))) = true then
      (at? p0 x2).bind fun a5 =>
      (quota_Of_1 N a5 p1c0 p1c1).bind fun r7 =>
      if r7 = true then
        zcv N x2 (zaT N p0 p1c0 p1c1 kL0) (IntKind.i64.wrap (x1 + 1))
      else
        zcv N x2 (zaT N p0 p1c0 p1c1 kL0) x1
    else
      some x1
def zct (N : Nat) (p0 : (List zad)) (p1c0 : Int) (p1c1 : Int) : Option Int :=
  zaT N p0 p1c0 p1c1 N 0 0
def quota_Of (N : Nat) (p0 : (List zad)) (p1 : Int) (p2 : Int) : Option Int :=
  (zct N p0 p1 p2).bind fun r1 =>
  some r1
def zcV (N : Nat) (x2 : Int) (cL0 : Int → (List Int) → Option (List Int)) (y4 : (List Int)) : Option (List Int) :=
  cL0 (IntKind.i64.wrap (x2 + 1)) y4
def zch (N : Nat) (p0 : zaa) (y1 : (List Int)) (x2 : Int) (a5 : zaq) (cL0 : Int → (List Int) → Option (List Int)) : Nat → Int → Option (List Int)
  | 0, _ => none
  | kL2 + 1, x7 =>
    if (decide (x7 < 8)) = true then
      (quota_Of N p0.f_st.Jobs x2 x7).bind fun r9 =>
      if (decide (r9 > a5.MaxUser)) = true then
        (app? y1 ([x2] : List Int)).bind fun z12 =>
        zcV N x2 cL0 z12
      else
        zch N p0 y1 x2 a5 cL0 kL2 (IntKind.i64.wrap (x7 + 1))
    else
      zcV N x2 cL0 y1
def zbn (N : Nat) (p0 : zaa) : Nat → Int → (List Int) → Option (List Int)
  | 0, _, _ => none
  | kL0 + 1, x2, y1 =>
    if (decide (x2 < (p0.f_s.Queues.length : Int))) = true then
      (at? p0.f_s.Queues x2).bind fun a5 =>
      zch N p0 y1 x2 a5 (zbn N p0 kL0) N 0
    else
      some y1
def zdT (N : Nat) (p0 : zaa) : Option (List Int) :=
  zbn N p0 N 0 ([] : List Int)
def zcW (N : Nat) (p0 : za4) (p1 : zaa) : Option Bool :=
  oel (mget p1.f_jobs p0.Job)
    (some (!false))
    fun o1 =>
      some (!true)
def zas (N : Nat) (p0 : (List za4)) (p1c0 : zaa) : Nat → Int → Option Int
  | 0, _ => none
  | kL0 + 1, x1 =>
    if (decide (x1 < (p0.length : Int))) = true then
      (at? p0 x1).bind fun a3 =>
      (zcW N a3 p1c0).bind fun r5 =>
      if r5 = true then
        some x1
      else
        zas N p0 p1c0 kL0 (IntKind.i64.wrap (x1 + 1))
    else
      some (-1)
def zay (N : Nat) (p0 : (List za4)) (p1c0 : zaa) : Option Int :=
  zas N p0 p1c0 N 0
def zax (N : Nat) (p0 : (List za4)) (p1c0 : zaa) : Option Bool :=
  (zay N p0 p1c0).bind fun r1 =>
  some (decide (r1 ≥ 0))
def zcC (N : Nat) (x2 : Int) (cL0 : Int → (List Int) → Option (List Int)) (y4 : (List Int)) : Option (List Int) :=
  cL0 (IntKind.i64.wrap (x2 + 1)) y4
def zaZ (N : Nat) (p0 : zaa) : Nat → Int → (List Int) → Option (List Int)
  | 0, _, _ => none
  | kL0 + 1, x2, y1 =>
    if (decide (x2 < (p0.f_st.Jobs.length : Int))) = true then
      (at? p0.f_st.Jobs x2).bind fun a5 =>
      (life_Over N a5.State).bind fun r7 =>
      if r7 = true then
        zcC N x2 (zaZ N p0 kL0) y1
      else
        (zax N a5.After p0).bind fun r10 =>
        if r10 = true then
          (app? y1 ([a5.Id] : List Int)).bind fun z13 =>
          zcC N x2 (zaZ N p0 kL0) z13
        else
          zcC N x2 (zaZ N p0 kL0) y1
    else
      some y1
def zdk (N : Nat) (p0 : zaa) : Option (List Int) :=
  zaZ N p0 N 0 ([] : List Int)
def zdB (N : Nat) (p0 : (List Int)) : Nat → Int → Option Bool
  | 0, _ => none
  | kL0 + 1, x1 =>
    if (decide (x1 < (p0.length : Int))) = true then
      (at? p0 x1).bind fun a3 =>
      if ((decide (a3 < 0)) || (decide (a3 > 1099511627776))) = true then
        some false
      else
        zdB N p0 kL0 (IntKind.i64.wrap (x1 + 1))
    else
      some true
def share_Right (N : Nat) (p0 : (List Int)) : Option Bool :=
  zdB N p0 N 0
def zeb (N : Nat) (x2 : Int) (cL0 : Int → (List Int) → Option (List Int)) (y4 : (List Int)) : Option (List Int) :=
  cL0 (IntKind.i64.wrap (x2 + 1)) y4
def zec (N : Nat) (y1 : (List Int)) (x2 : Int) (cL0 : Int → (List Int) → Option (List Int)) (x9 : Bool) : Option (List Int) :=
  if x9 = true then
    (app? y1 ([x2] : List Int)).bind fun z11 =>
    zeb N x2 cL0 z11
  else
    zeb N x2 cL0 y1
def zbk (N : Nat) (p0 : zaa) : Nat → Int → (List Int) → Option (List Int)
  | 0, _, _ => none
  | kL0 + 1, x2, y1 =>
    if (decide (x2 < p0.f_s.Users)) = true then
      if (decide (x2 ≥ (p0.f_st.Use.length : Int))) = true then
        zec N y1 x2 (zbk N p0 kL0) true
      else
        (slice? p0.f_st.Use x2 (IntKind.i64.wrap (x2 + 1))).bind fun z13 =>
        (share_Right N z13).bind fun r15 =>
        zec N y1 x2 (zbk N p0 kL0) (!r15)
    else
      some y1
def zdv (N : Nat) (p0 : zaa) : Option (List Int) :=
  zbk N p0 N 0 ([] : List Int)
def zdH (N : Nat) (r87 : (List Int)) : Nat → Int → (List zae) → Option ((List zae) × Int)
  | 0, _, _ => none
  | kL8 + 1, x90, y89 =>
    if (decide (x90 < (r87.length : Int))) = true then
      (at? r87 x90).bind fun a92 =>
      (app? y89 ([({ What := 9, Where := a92 } : zae)] : List zae)).bind fun z94 =>
      zdH N r87 kL8 (IntKind.i64.wrap (x90 + 1)) z94
    else
      some (y89, 0)
def zej (N : Nat) (o4 : zaa) (r77 : (List Int)) : Nat → Int → (List zae) → Option ((List zae) × Int)
  | 0, _, _ => none
  | kL7 + 1, x80, y79 =>
    if (decide (x80 < (r77.length : Int))) = true then
      (at? r77 x80).bind fun a82 =>
      (app? y79 ([({ What := 8, Where := a82 } : zae)] : List zae)).bind fun z84 =>
      zej N o4 r77 kL7 (IntKind.i64.wrap (x80 + 1)) z84
    else
      (zdv N o4).bind fun r87 =>
      zdH N r87 N 0 y79
def zen (N : Nat) (o4 : zaa) (r67 : (List Int)) : Nat → Int → (List zae) → Option ((List zae) × Int)
  | 0, _, _ => none
  | kL6 + 1, x70, y69 =>
    if (decide (x70 < (r67.length : Int))) = true then
      (at? r67 x70).bind fun a72 =>
      (app? y69 ([({ What := 7, Where := a72 } : zae)] : List zae)).bind fun z74 =>
      zen N o4 r67 kL6 (IntKind.i64.wrap (x70 + 1)) z74
    else
      (zdk N o4).bind fun r77 =>
      zej N o4 r77 N 0 y69
def zdC (N : Nat) (o4 : zaa) (r57 : (List Int)) : Nat → Int → (List zae) → Option ((List zae) × Int)
  | 0, _, _ => none
  | kL5 + 1, x60, y59 =>
    if (decide (x60 < (r57.length : Int))) = true then
      (at? r57 x60).bind fun a62 =>
      (app? y59 ([({ What := 6, Where := a62 } : zae)] : List zae)).bind fun z64 =>
      zdC N o4 r57 kL5 (IntKind.i64.wrap (x60 + 1)) z64
    else
      (zdT N o4).bind fun r67 =>
      zen N o4 r67 N 0 y59
def zdI (N : Nat) (o4 : zaa) (r47 : (List Int)) : Nat → Int → (List zae) → Option ((List zae) × Int)
  | 0, _, _ => none
  | kL4 + 1, x50, y49 =>
    if (decide (x50 < (r47.length : Int))) = true then
      (at? r47 x50).bind fun a52 =>
      (app? y49 ([({ What := 5, Where := a52 } : zae)] : List zae)).bind fun z54 =>
      zdI N o4 r47 kL4 (IntKind.i64.wrap (x50 + 1)) z54
    else
      (zcQ N o4).bind fun r57 =>
      zdC N o4 r57 N 0 y49
def zdG (N : Nat) (o4 : zaa) (r37 : (List Int)) : Nat → Int → (List zae) → Option ((List zae) × Int)
  | 0, _, _ => none
  | kL3 + 1, x40, y39 =>
    if (decide (x40 < (r37.length : Int))) = true then
      (at? r37 x40).bind fun a42 =>
      (app? y39 ([({ What := 4, Where := a42 } : zae)] : List zae)).bind fun z44 =>
      zdG N o4 r37 kL3 (IntKind.i64.wrap (x40 + 1)) z44
    else
      (zcO N o4).bind fun r47 =>
      zdI N o4 r47 N 0 y39
def zdF (N : Nat) (o4 : zaa) (r27 : (List Int)) : Nat → Int → (List zae) → Option ((List zae) × Int)
  | 0, _, _ => none
  | kL2 + 1, x30, y29 =>
    if (decide (x30 < (r27.length : Int))) = true then
      (at? r27 x30).bind fun a32 =>
      (app? y29 ([({ What := 3, Where := a32 } : zae)] : List zae)).bind fun z34 =>
      zdF N o4 r27 kL2 (IntKind.i64.wrap (x30 + 1)) z34
    else
      (zdp N o4).bind fun r37 =>
      zdG N o4 r37 N 0 y29
def zdE (N : Nat) (o4 : zaa) (r17 : (List Int)) : Nat → Int → (List zae) → Option ((List zae) × Int)
  | 0, _, _ => none
  | kL1 + 1, x20, y19 =>
    if (decide (x20 < (r17.length : Int))) = true then
      (at? r17 x20).bind fun a22 =>
      (app? y19 ([({ What := 2, Where := a22 } : zae)] : List zae)).bind fun z24 =>
      zdE N o4 r17 kL1 (IntKind.i64.wrap (x20 + 1)) z24
    else
      (zb8 N o4).bind fun r27 =>
      zdF N o4 r27 N 0 y19
def zdD (N : Nat) (o4 : zaa) (r7 : (List Int)) : Nat → Int → (List zae) → Option ((List zae) × Int)
  | 0, _, _ => none
  | kL0 + 1, x10, y9 =>
    if (decide (x10 < (r7.length : Int))) = true then
      (at? r7 x10).bind fun a12 =>
      (app? y9 ([({ What := 1, Where := a12 } : zae)] : List zae)).bind fun z14 =>
      zdD N o4 r7 kL0 (IntKind.i64.wrap (x10 + 1)) z14
    else
      (zda N o4).bind fun r17 =>
      zdE N o4 r17 N 0 y9
def ze8 (N : Nat) (p0 : zab) (p1 : zag) : Option ((List zae) × Int) :=
  (zeY N p0 p1).bind fun (r1, r2) =>
  oel (r1)
    (if (!r2) = true then
        some ([], 2)
      else
        none)
    fun o4 =>
      if (!r2) = true then
        some ([], 2)
      else
        (zcB N o4).bind fun r7 =>
        zdD N o4 r7 N 0 ([] : List zae)
def ze0 (N : Nat) (p0 : zab) : Option zag :=
  (mk? (0 : Int) p0.Users p0.Users).bind fun z1 =>
  (mk? (0 : Int) (p0.Queues.length : Int) (p0.Queues.length : Int)).bind fun z3 =>
  some ({ Now := 0, Next := 1, Book := 1, Jobs := [], Allocs := [], Books := [], Use := z1, Stamps := ({ Queues := z3, Nodes := 0 } : api_Stamps) } : zag)
def zdY (N : Nat) : Option zab :=
  some ({ Nodes := ([({ Cpu := 4, Mem := 8, Gpu := 0, Lic := 1 } : zac), ({ Cpu := 8, Mem := 8, Gpu := 1, Lic := 0 } : zac)] : List zac), Parts := [([0, 1] : List Int), ([1] : List Int)], Queues := [({ Part := 0, Users := [], MaxJobs := 8, MaxRun := 4, MaxUser := 3, Qos := 1 } : zaq), ({ Part := 1, Users := ([0, 1] : List Int), MaxJobs := 4, MaxRun := 2, MaxUser := 2, Qos := 5 } : zaq)], Users := 3, Weights := ({ Age := 1, Size := 2, Qos := 10, Share := 3 } : za6), Decay := 4, Mode := 1, Jobs := 12, Ids := 100, Versions := 50, Linger := 5, Keep := 4, In := 3, Out := 6, Cache := 4 } : zab)
def zdP (N : Nat) (p0 : (List zae)) (p1 : (List zae)) : Nat → Int → Option Bool
  | 0, _ => none
  | kL0 + 1, x2 =>
    if (decide (x2 < (p0.length : Int))) = true then
      (at? p0 x2).bind fun a4 =>
      (at? p1 x2).bind fun a6 =>
      if (!decide (a4 = a6)) = true then
        some false
      else
        zdP N p0 p1 kL0 (IntKind.i64.wrap (x2 + 1))
    else
      some true
def zeG (N : Nat) (p0 : (List zae)) (p1 : (List zae)) : Option Bool :=
  if ((p0.length : Int) != (p1.length : Int)) = true then
    some false
  else
    zdP N p0 p1 N 0
def audit_Name (N : Nat) (p0 : Int) : Option ByteArray := if p0 = 4 then some ⟨#[106, 111, 98]⟩ else none
def zdK (N : Nat) (x14 : Bool) : Option Bool :=
  some x14
def zd3 (N : Nat) : Option Bool :=
  (zdY N).bind fun r1 =>
  (ze0 N r1).bind fun r3 =>
  (zdY N).bind fun r5 =>
  (ze8 N r5 ({ Now := r3.Now, Next := 2, Book := r3.Book, Jobs := ([({ Id := 1, User := 0, Queue := 0, Many := 1, Need := ({ Cpu := 1, Mem := 0, Gpu := 0, Lic := 0 } : zac), Wall := 9, After := [], State := 3, Ok := false, Kill := false, Version := 2, Born := 0, Start := 0, End := 0, Array := 0 } : zad)] : List zad), Allocs := r3.Allocs, Books := r3.Books, Use := r3.Use, Stamps := r3.Stamps } : zag)).bind fun (r7, r8) =>
  if (r8 == 0) = true then
    (zeG N r7 ([({ What := 4, Where := 1 } : zae)] : List zae)).bind fun r15 =>
    if r15 = true then
      (audit_Name N 4).bind fun r17 =>
      zdK N (r17.toList == (⟨#[106, 111, 98]⟩ : ByteArray).toList)
    else
      zdK N false
  else
    zdK N false
def zck (N : Nat) (p0 : zab) : Nat → Int → Option Bool
  | 0, _ => none
  | kL1 + 1, x7 =>
    if (decide (x7 < (p0.Queues.length : Int))) = true then
      (at? p0.Queues x7).bind fun a9 =>
      if (decide ((a9.Users.length : Int) > 40)) = true then
        some false
      else
        zck N p0 kL1 (IntKind.i64.wrap (x7 + 1))
    else
      some true
def zcI (N : Nat) (p0 : zab) : Nat → Int → Option Bool
  | 0, _ => none
  | kL0 + 1, x2 =>
    if (decide (x2 < (p0.Parts.length : Int))) = true then
      (at? p0.Parts x2).bind fun a4 =>
      if (decide ((a4.length : Int) > 40)) = true then
        some false
      else
        zcI N p0 kL0 (IntKind.i64.wrap (x2 + 1))
    else
      zck N p0 N 0
def zd6 (N : Nat) (p0 : zab) : Option Bool :=
  if ((decide ((p0.Nodes.length : Int) > 40)) || ((decide ((p0.Parts.length : Int) > 20)) || (decide ((p0.Queues.length : Int) > 20)))) = true then
    some false
  else
    zcI N p0 N 0
def zcP (N : Nat) (p0 : (List zad)) : Nat → Int → Option Bool
  | 0, _ => none
  | kL0 + 1, x2 =>
    if (decide (x2 < (p0.length : Int))) = true then
      (at? p0 x2).bind fun a4 =>
      if (decide ((a4.After.length : Int) > 10)) = true then
        some false
      else
        zcP N p0 kL0 (IntKind.i64.wrap (x2 + 1))
    else
      some true
def zd7 (N : Nat) (p0 : (List zad)) : Option Bool :=
  if (decide ((p0.length : Int) > 30)) = true then
    some false
  else
    zcP N p0 N 0
def zcN (N : Nat) (p1 : zag) : Nat → Int → Option Bool
  | 0, _ => none
  | kL1 + 1, x7 =>
    if (decide (x7 < (p1.Allocs.length : Int))) = true then
      (at? p1.Allocs x7).bind fun a9 =>
      if (decide ((a9.Shares.length : Int) > 40)) = true then
        some false
      else
        zcN N p1 kL1 (IntKind.i64.wrap (x7 + 1))
    else
      some true
def zbX (N : Nat) (p1 : zag) (x5 : Bool) : Option Bool :=
  if x5 = true then
    some false
  else
    zcN N p1 N 0
def zd9 (N : Nat) (p0 : zab) (p1 : zag) : Option Bool :=
  (zd6 N p0).bind fun r12 =>
  if (!r12) = true then
    zbX N p1 true
  else
    (zd7 N p1.Jobs).bind fun r14 =>
    if (!r14) = true then
      zbX N p1 true
    else
      if (decide ((p1.Allocs.length : Int) > 40)) = true then
        zbX N p1 true
      else
        if (decide ((p1.Books.length : Int) > 20)) = true then
          zbX N p1 true
        else
          if (decide ((p1.Use.length : Int) > 20)) = true then
            zbX N p1 true
          else
            zbX N p1 (decide ((p1.Stamps.Queues.length : Int) > 20))
def zaE (N : Nat) (p0 : Int) (p1 : Int) (p2 : Int) : Option Bool :=
  some ((decide (p1 ≤ p0)) && (decide (p0 ≤ p2)))
def zcd (N : Nat) (p0 : Int) : Option Bool :=
  some ((decide (p0 ≥ 0)) && (decide (p0 ≤ 1048576)))
def zci (N : Nat) (x9 : Bool) : Option Bool :=
  some x9
def zbd (N : Nat) (p0 : zac) : Option Bool :=
  (zcd N p0.Cpu).bind fun r10 =>
  if r10 = true then
    (zcd N p0.Mem).bind fun r12 =>
    if r12 = true then
      (zcd N p0.Gpu).bind fun r14 =>
      if r14 = true then
        (zcd N p0.Lic).bind fun r16 =>
        zci N r16
      else
        zci N false
    else
      zci N false
  else
    zci N false
def zcn (N : Nat) (p0 : zab) : Nat → Int → Option Bool
  | 0, _ => none
  | kL0 + 1, x1 =>
    if (decide (x1 < (p0.Nodes.length : Int))) = true then
      (at? p0.Nodes x1).bind fun a3 =>
      (zbd N a3).bind fun r5 =>
      if (!r5) = true then
        some false
      else
        zcn N p0 kL0 (IntKind.i64.wrap (x1 + 1))
    else
      (zaE N (p0.Nodes.length : Int) 1 16).bind fun r8 =>
      some r8
def zdW (N : Nat) (p0 : zab) : Option Bool :=
  zcn N p0 N 0
def zca (N : Nat) (x1 : Int) (cL0 : Int → Option Bool) (x11 : Bool) : Option Bool :=
  if x11 = true then
    some false
  else
    cL0 (IntKind.i64.wrap (x1 + 1))
def zaY (N : Nat) (p0 : (List Int)) (p1 : Int) : Nat → Int → Option Bool
  | 0, _ => none
  | kL0 + 1, x1 =>
    if (decide (x1 < (p0.length : Int))) = true then
      (at? p0 x1).bind fun a13 =>
      if (decide (a13 < 0)) = true then
        zca N x1 (zaY N p0 p1 kL0) true
      else
        (at? p0 x1).bind fun a15 =>
        if (decide (a15 ≥ p1)) = true then
          zca N x1 (zaY N p0 p1 kL0) true
        else
          if (decide (x1 > 0)) = true then
            (at? p0 (IntKind.i64.wrap (x1 - 1))).bind fun a17 =>
            (at? p0 x1).bind fun a19 =>
            zca N x1 (zaY N p0 p1 kL0) (decide (a17 ≥ a19))
          else
            zca N x1 (zaY N p0 p1 kL0) false
    else
      some true
def zcL (N : Nat) (p0 : (List Int)) (p1 : Int) : Option Bool :=
  zaY N p0 p1 N 0
def zdL (N : Nat) (x1 : Int) (cL0 : Int → Option Bool) (x9 : Bool) : Option Bool :=
  if x9 = true then
    some false
  else
    cL0 (IntKind.i64.wrap (x1 + 1))
def zbD (N : Nat) (p0 : zab) : Nat → Int → Option Bool
  | 0, _ => none
  | kL0 + 1, x1 =>
    if (decide (x1 < (p0.Parts.length : Int))) = true then
      (at? p0.Parts x1).bind fun a11 =>
      if (decide ((a11.length : Int) < 1)) = true then
        zdL N x1 (zbD N p0 kL0) true
      else
        (at? p0.Parts x1).bind fun a13 =>
        (zcL N a13 (p0.Nodes.length : Int)).bind fun r15 =>
        zdL N x1 (zbD N p0 kL0) (!r15)
    else
      (zaE N (p0.Parts.length : Int) 1 8).bind fun r17 =>
      some r17
def zdV (N : Nat) (p0 : zab) : Option Bool :=
  zbD N p0 N 0
def zbf (N : Nat) (x1 : Int) (cL0 : Int → Option Bool) (x15 : Bool) : Option Bool :=
  if x15 = true then
    some false
  else
    cL0 (IntKind.i64.wrap (x1 + 1))
def zaN (N : Nat) (p0 : zab) : Nat → Int → Option Bool
  | 0, _ => none
  | kL0 + 1, x1 =>
    if (decide (x1 < (p0.Queues.length : Int))) = true then
      (at? p0.Queues x1).bind fun a3 =>
      if (decide (a3.Part < 0)) = true then
        zbf N x1 (zaN N p0 kL0) true
      else
        if (decide (a3.Part ≥ (p0.Parts.length : Int))) = true then
          zbf N x1 (zaN N p0 kL0) true
        else
          (zcL N a3.Users p0.Users).bind fun r17 =>
          if (!r17) = true then
            zbf N x1 (zaN N p0 kL0) true
          else
            (zaE N a3.MaxJobs 1 256).bind fun r19 =>
            if (!r19) = true then
              zbf N x1 (zaN N p0 kL0) true
            else
              (zaE N a3.MaxRun 1 256).bind fun r21 =>
              if (!r21) = true then
                zbf N x1 (zaN N p0 kL0) true
              else
                (zaE N a3.MaxUser 1 256).bind fun r23 =>
                if (!r23) = true then
                  zbf N x1 (zaN N p0 kL0) true
                else
                  (zaE N a3.Qos 0 100).bind fun r25 =>
                  zbf N x1 (zaN N p0 kL0) (!r25)
    else
      (zaE N (p0.Queues.length : Int) 1 8).bind fun r27 =>
      some r27
def zdt (N : Nat) (p0 : zab) : Option Bool :=
  zaN N p0 N 0
def zb6 (N : Nat) (x9 : Bool) (r10 : Bool) (r12 : Bool) (r14 : Bool) (r16 : Bool) (r18 : Bool) (r20 : Bool) (r22 : Bool) (r24 : Bool) (r26 : Bool) (r28 : Bool) (r30 : Bool) (r32 : Bool) (r34 : Bool) (r36 : Bool) : Nat → Int → Option ByteArray
  | 0, _ => none
  | kL1 + 1, x38 =>
    if (decide (x38 < 15)) = true then
      (at? ([r10, r12, r14, r16, x9, r18, r20, r22, r24, r26, r28, r30, r32, r34, r36] : List Bool) x38).bind fun a40 =>
      if (!a40) = true then
        (at? ([(⟨#[78, 111, 100, 101, 115]⟩ : ByteArray), (⟨#[80, 97, 114, 116, 115]⟩ : ByteArray), (⟨#[85, 115, 101, 114, 115]⟩ : ByteArray), (⟨#[81, 117, 101, 117, 101, 115]⟩ : ByteArray), (⟨#[87, 101, 105, 103, 104, 116, 115]⟩ : ByteArray), (⟨#[68, 101, 99, 97, 121]⟩ : ByteArray), (⟨#[77, 111, 100, 101]⟩ : ByteArray), (⟨#[74, 111, 98, 115]⟩ : ByteArray), (⟨#[73, 100, 115]⟩ : ByteArray), (⟨#[86, 101, 114, 115, 105, 111, 110, 115]⟩ : ByteArray), (⟨#[76, 105, 110, 103, 101, 114]⟩ : ByteArray), (⟨#[75, 101, 101, 112]⟩ : ByteArray), (⟨#[73, 110]⟩ : ByteArray), (⟨#[79, 117, 116]⟩ : ByteArray), (⟨#[67, 97, 99, 104, 101]⟩ : ByteArray)] : List ByteArray) x38).bind fun a43 =>
        some a43
      else
        zb6 N x9 r10 r12 r14 r16 r18 r20 r22 r24 r26 r28 r30 r32 r34 r36 kL1 (IntKind.i64.wrap (x38 + 1))
    else
      some (⟨#[]⟩ : ByteArray)
def zb5 (N : Nat) (p0 : zab) (x9 : Bool) : Option ByteArray :=
  (zdW N p0).bind fun r10 =>
  (zdV N p0).bind fun r12 =>
  (zaE N p0.Users 1 8).bind fun r14 =>
  (zdt N p0).bind fun r16 =>
  (zaE N p0.Decay 1 16).bind fun r18 =>
  (zaE N p0.Mode 1 2).bind fun r20 =>
  (zaE N p0.Jobs 1 256).bind fun r22 =>
  (zaE N p0.Ids 1 1048576).bind fun r24 =>
  (zaE N p0.Versions 1 65536).bind fun r26 =>
  (zaE N p0.Linger 0 65536).bind fun r28 =>
  (zaE N p0.Keep 1 16).bind fun r30 =>
  (zaE N p0.In 1 8).bind fun r32 =>
  (zaE N p0.Out 1 16).bind fun r34 =>
  (zaE N p0.Cache 0 16).bind fun r36 =>
  zb6 N x9 r10 r12 r14 r16 r18 r20 r22 r24 r26 r28 r30 r32 r34 r36 N 0
def zdq (N : Nat) (p0 : zab) : Option ByteArray :=
  (zaE N p0.Weights.Age 0 1000).bind fun r45 =>
  if r45 = true then
    (zaE N p0.Weights.Size 0 1000).bind fun r47 =>
    if r47 = true then
      (zaE N p0.Weights.Qos 0 1000).bind fun r49 =>
      if r49 = true then
        (zaE N p0.Weights.Share 0 1000).bind fun r51 =>
        zb5 N p0 r51
      else
        zb5 N p0 false
    else
      zb5 N p0 false
  else
    zb5 N p0 false
def zc7 (N : Nat) (p0 : zab) : Option Bool :=
  (zdq N p0).bind fun r1 =>
  some (r1.toList == (⟨#[]⟩ : ByteArray).toList)
def zbv (N : Nat) (p0 : Int) : Option Bool :=
  some ((decide (p0 ≥ 0)) && (decide (p0 ≤ 281474976710656)))
def zcy (N : Nat) (p0 : (List zad)) (p1 : Int) : Nat → Int → Option Int
  | 0, _ => none
  | kL0 + 1, x1 =>
    if (decide (x1 < (p0.length : Int))) = true then
      (at? p0 x1).bind fun a3 =>
      if (a3.Id == p1) = true then
        some x1
      else
        zcy N p0 p1 kL0 (IntKind.i64.wrap (x1 + 1))
    else
      some (-1)
def zb3 (N : Nat) (p0 : (List zad)) (p1 : Int) : Option Int :=
  zcy N p0 p1 N 0
def zbC (N : Nat) (x1 : Int) (cL0 : Int → Option Bool) (x15 : Bool) : Option Bool :=
  if x15 = true then
    some false
  else
    cL0 (IntKind.i64.wrap (x1 + 1))
def zaU (N : Nat) (p0 : (List zak)) (p1 : Int) : Nat → Int → Option Bool
  | 0, _ => none
  | kL0 + 1, x1 =>
    if (decide (x1 < (p0.length : Int))) = true then
      (at? p0 x1).bind fun a17 =>
      if (decide (a17.Node < 0)) = true then
        zbC N x1 (zaU N p0 p1 kL0) true
      else
        (at? p0 x1).bind fun a19 =>
        if (decide (a19.Node ≥ p1)) = true then
          zbC N x1 (zaU N p0 p1 kL0) true
        else
          (at? p0 x1).bind fun a21 =>
          if (decide (a21.Many < 1)) = true then
            zbC N x1 (zaU N p0 p1 kL0) true
          else
            (at? p0 x1).bind fun a23 =>
            if (decide (a23.Many > 64)) = true then
              zbC N x1 (zaU N p0 p1 kL0) true
            else
              if (decide (x1 > 0)) = true then
                (at? p0 (IntKind.i64.wrap (x1 - 1))).bind fun a25 =>
                (at? p0 x1).bind fun a27 =>
                zbC N x1 (zaU N p0 p1 kL0) (decide (a25.Node ≥ a27.Node))
              else
                zbC N x1 (zaU N p0 p1 kL0) false
    else
      some true
def zcb (N : Nat) (p0 : (List zak)) (p1 : Int) : Option Bool :=
  zaU N p0 p1 N 0
def zcq (N : Nat) (p0 : zac) (p1 : zac) : Option zac :=
  some ({ Cpu := (IntKind.i64.wrap (p0.Cpu + p1.Cpu)), Mem := (IntKind.i64.wrap (p0.Mem + p1.Mem)), Gpu := (IntKind.i64.wrap (p0.Gpu + p1.Gpu)), Lic := (IntKind.i64.wrap (p0.Lic + p1.Lic)) } : zac)
def zcj (N : Nat) (p0 : zac) (p1 : Int) : Nat → Int → zac → Option zac
  | 0, _, _ => none
  | kL0 + 1, x2, y1 =>
    if (decide (x2 < p1)) = true then
      (zcq N y1 p0).bind fun r4 =>
      zcj N p0 p1 kL0 (IntKind.i64.wrap (x2 + 1)) r4
    else
      some y1
def zdZ (N : Nat) (p0 : zac) (p1 : Int) : Option zac :=
  zcj N p0 p1 N 0 ({ Cpu := 0, Mem := 0, Gpu := 0, Lic := 0 } : zac)
def zeF (N : Nat) (x2 : Int) (cL0 : Int → Int → Option Int) (x4 : Int) : Option Int :=
  cL0 x4 (IntKind.i64.wrap (x2 + 1))
def zbO (N : Nat) (p0 : (List zak)) (p1 : Int) : Nat → Int → Int → Option Int
  | 0, _, _ => none
  | kL0 + 1, x1, x2 =>
    if (decide (x2 < (p0.length : Int))) = true then
      (at? p0 x2).bind fun a5 =>
      if (a5.Node == p1) = true then
        (at? p0 x2).bind fun a8 =>
        zeF N x2 (zbO N p0 p1 kL0) (IntKind.i64.wrap (x1 + a8.Many))
      else
        zeF N x2 (zbO N p0 p1 kL0) x1
    else
      some x1
def zex (N : Nat) (p0 : (List zak)) (p1 : Int) : Option Int :=
  zbO N p0 p1 N 0 0
def zbL (N : Nat) (p0 : zac) (p1 : zac) : Option Bool :=
  some ((decide (p0.Cpu ≤ p1.Cpu)) && ((decide (p0.Mem ≤ p1.Mem)) && ((decide (p0.Gpu ≤ p1.Gpu)) && (decide (p0.Lic ≤ p1.Lic)))))
def zeD (N : Nat) (p0 : zac) (p1 : zac) : Option zac :=
  some ({ Cpu := (IntKind.i64.wrap (p0.Cpu - p1.Cpu)), Mem := (IntKind.i64.wrap (p0.Mem - p1.Mem)), Gpu := (IntKind.i64.wrap (p0.Gpu - p1.Gpu)), Lic := (IntKind.i64.wrap (p0.Lic - p1.Lic)) } : zac)
def zee (N : Nat) (p0 : (List zac)) (y1 : (List zac)) (x3 : Int) (y5 : zac) (cL0 : Bool → Int → (List zac) → Option ((List zac) × Bool)) (x22 : Bool) : Option ((List zac) × Bool) :=
  (at? p0 x3).bind fun a23 =>
  (zeD N a23 y5).bind fun r25 =>
  (app? y1 ([r25] : List zac)).bind fun z27 =>
  cL0 x22 (IntKind.i64.wrap (x3 + 1)) z27
def zb7 (N : Nat) (p0 : (List zac)) (p1 : (List zai)) (y1 : (List zac)) (x2 : Bool) (x3 : Int) (cL0 : Bool → Int → (List zac) → Option ((List zac) × Bool)) : Nat → Int → zac → Option ((List zac) × Bool)
  | 0, _, _ => none
  | kL1 + 1, x6, y5 =>
    if (decide (x6 < (p1.length : Int))) = true then
      (at? p1 x6).bind fun a8 =>
      (at? p1 x6).bind fun a10 =>
      (zex N a10.Shares x3).bind fun r12 =>
      (zdZ N a8.Need r12).bind fun r14 =>
      (zcq N y5 r14).bind fun r16 =>
      zb7 N p0 p1 y1 x2 x3 cL0 kL1 (IntKind.i64.wrap (x6 + 1)) r16
    else
      if x2 = true then
        (at? p0 x3).bind fun a29 =>
        (zbL N y5 a29).bind fun r31 =>
        zee N p0 y1 x3 y5 cL0 r31
      else
        zee N p0 y1 x3 y5 cL0 false
def zbj (N : Nat) (p0 : (List zac)) (p1 : (List zai)) : Nat → Bool → Int → (List zac) → Option ((List zac) × Bool)
  | 0, _, _, _ => none
  | kL0 + 1, x2, x3, y1 =>
    if (decide (x3 < (p0.length : Int))) = true then
      zb7 N p0 p1 y1 x2 x3 (zbj N p0 p1 kL0) N 0 ({ Cpu := 0, Mem := 0, Gpu := 0, Lic := 0 } : zac)
    else
      some (y1, x2)
def zeq (N : Nat) (p0 : (List zac)) (p1 : (List zai)) : Option ((List zac) × Bool) :=
  zbj N p0 p1 N true 0 ([] : List zac)
def zaI (N : Nat) (x1 : Int) (cL0 : Int → Option Bool) (x13 : Bool) : Option Bool :=
  if x13 = true then
    some false
  else
    cL0 (IntKind.i64.wrap (x1 + 1))
def zaz (N : Nat) (p0 : zab) (p1 : zag) : Nat → Int → Option Bool
  | 0, _ => none
  | kL0 + 1, x1 =>
    if (decide (x1 < (p1.Allocs.length : Int))) = true then
      (at? p1.Allocs x1).bind fun a3 =>
      if (decide (x1 > 0)) = true then
        (at? p1.Allocs (IntKind.i64.wrap (x1 - 1))).bind fun a15 =>
        if (decide (a15.Job ≥ a3.Job)) = true then
          zaI N x1 (zaz N p0 p1 kL0) true
        else
          (zb3 N p1.Jobs a3.Job).bind fun r17 =>
          if (decide (r17 < 0)) = true then
            zaI N x1 (zaz N p0 p1 kL0) true
          else
            (zcb N a3.Shares (p0.Nodes.length : Int)).bind fun r19 =>
            if (!r19) = true then
              zaI N x1 (zaz N p0 p1 kL0) true
            else
              (zbd N a3.Need).bind fun r21 =>
              zaI N x1 (zaz N p0 p1 kL0) (!r21)
      else
        (zb3 N p1.Jobs a3.Job).bind fun r23 =>
        if (decide (r23 < 0)) = true then
          zaI N x1 (zaz N p0 p1 kL0) true
        else
          (zcb N a3.Shares (p0.Nodes.length : Int)).bind fun r25 =>
          if (!r25) = true then
            zaI N x1 (zaz N p0 p1 kL0) true
          else
            (zbd N a3.Need).bind fun r27 =>
            zaI N x1 (zaz N p0 p1 kL0) (!r27)
    else
      (zeq N p0.Nodes p1.Allocs).bind fun (r29, r30) =>
      some r30
def zdu (N : Nat) (p0 : zab) (p1 : zag) : Option Bool :=
  zaz N p0 p1 N 0
def zc1 (N : Nat) (x1 : Int) (cL0 : Int → Option Bool) (x15 : Bool) : Option Bool :=
  if x15 = true then
    some true
  else
    cL0 (IntKind.i64.wrap (x1 + 1))
def zbp (N : Nat) (p0 : zag) (p1 : Int) (p2 : Int) : Nat → Int → Option Bool
  | 0, _ => none
  | kL0 + 1, x1 =>
    if (decide (x1 < (p0.Allocs.length : Int))) = true then
      (at? p0.Allocs x1).bind fun a3 =>
      (zb3 N p0.Jobs a3.Job).bind fun r5 =>
      if (decide (r5 ≥ 0)) = true then
        (at? p0.Allocs x1).bind fun a17 =>
        (zex N a17.Shares p1).bind fun r19 =>
        if (decide (r19 > 0)) = true then
          (at? p0.Jobs r5).bind fun a21 =>
          (at? p0.Jobs r5).bind fun a23 =>
          zc1 N x1 (zbp N p0 p1 p2 kL0) (decide ((IntKind.i64.wrap (a21.Start + a23.Wall)) > p2))
        else
          zc1 N x1 (zbp N p0 p1 p2 kL0) false
      else
        zc1 N x1 (zbp N p0 p1 p2 kL0) false
    else
      some false
def zdU (N : Nat) (p0 : zag) (p1 : Int) (p2 : Int) : Option Bool :=
  zbp N p0 p1 p2 N 0
def zbH (N : Nat) (x3 : Bool) : Option Bool :=
  some x3
def zd4 (N : Nat) (p0 : zam) (p1 : Int) : Option Bool :=
  if (decide (p0.Id > 0)) = true then
    (zbv N p0.Id).bind fun r4 =>
    if r4 = true then
      if (decide (p0.Node ≥ 0)) = true then
        if (decide (p0.Node < p1)) = true then
          if (decide (p0.From ≥ 0)) = true then
            if (decide (p0.To > p0.From)) = true then
              zbH N (decide (p0.To ≤ 1099511627776))
            else
              zbH N false
          else
            zbH N false
        else
          zbH N false
      else
        zbH N false
    else
      zbH N false
  else
    zbH N false
def zcm (N : Nat) (p0 : (List zam)) (p1 : Int) (p2 : Int) (p3 : Int) : Nat → Int → Option Bool
  | 0, _ => none
  | kL0 + 1, x1 =>
    if (decide (x1 < (p0.length : Int))) = true then
      (at? p0 x1).bind fun a3 =>
      if ((a3.Node == p1) && ((decide (a3.From < a3.To)) && ((decide (p2 < p3)) && ((decide (a3.From < p3)) && (decide (p2 < a3.To)))))) = true then
        some true
      else
        zcm N p0 p1 p2 p3 kL0 (IntKind.i64.wrap (x1 + 1))
    else
      some false
def zd1 (N : Nat) (p0 : (List zam)) (p1 : Int) (p2 : Int) (p3 : Int) : Option Bool :=
  zcm N p0 p1 p2 p3 N 0
def zdN (N : Nat) (x8 : Int) (cL1 : Int → Option Bool) (x24 : Bool) : Option Bool :=
  if x24 = true then
    some false
  else
    cL1 (IntKind.i64.wrap (x8 + 1))
def zbG (N : Nat) (p0 : (List zam)) (x1 : Int) (cL0 : Int → Option Bool) : Nat → Int → Option Bool
  | 0, _ => none
  | kL1 + 1, x8 =>
    if (decide (x8 < x1)) = true then
      (at? p0 x8).bind fun a26 =>
      (at? p0 x1).bind fun a28 =>
      if (decide (a26.Id ≥ a28.Id)) = true then
        zdN N x8 (zbG N p0 x1 cL0 kL1) true
      else
        (slice? p0 x8 (IntKind.i64.wrap (x8 + 1))).bind fun z30 =>
        (at? p0 x1).bind fun a32 =>
        (at? p0 x1).bind fun a34 =>
        (at? p0 x1).bind fun a36 =>
        (zd1 N z30 a32.Node a34.From a36.To).bind fun r38 =>
        zdN N x8 (zbG N p0 x1 cL0 kL1) r38
    else
      cL0 (IntKind.i64.wrap (x1 + 1))
def zbE (N : Nat) (p0 : (List zam)) (p1 : Int) : Nat → Int → Option Bool
  | 0, _ => none
  | kL0 + 1, x1 =>
    if (decide (x1 < (p0.length : Int))) = true then
      (at? p0 x1).bind fun a3 =>
      (zd4 N a3 p1).bind fun r5 =>
      if (!r5) = true then
        some false
      else
        zbG N p0 x1 (zbE N p0 p1 kL0) N 0
    else
      some (decide ((p0.length : Int) ≤ 16))
def zdX (N : Nat) (p0 : (List zam)) (p1 : Int) : Option Bool :=
  zbE N p0 p1 N 0
def zcS (N : Nat) (x1 : Int) (cL0 : Int → Option Bool) (x7 : Bool) : Option Bool :=
  if x7 = true then
    some false
  else
    cL0 (IntKind.i64.wrap (x1 + 1))
def zbq (N : Nat) (p0 : zab) (p1 : zag) : Nat → Int → Option Bool
  | 0, _ => none
  | kL0 + 1, x1 =>
    if (decide (x1 < (p1.Books.length : Int))) = true then
      (at? p1.Books x1).bind fun a3 =>
      if (decide (a3.Id ≥ p1.Book)) = true then
        zcS N x1 (zbq N p0 p1 kL0) true
      else
        if (decide (a3.To ≤ p1.Now)) = true then
          zcS N x1 (zbq N p0 p1 kL0) true
        else
          (zdU N p1 a3.Node a3.From).bind fun r9 =>
          zcS N x1 (zbq N p0 p1 kL0) r9
    else
      (zdX N p1.Books (p0.Nodes.length : Int)).bind fun r11 =>
      some r11
def zd0 (N : Nat) (p0 : zab) (p1 : zag) : Option Bool :=
  zbq N p0 p1 N 0
def zew (N : Nat) (x1 : Int) (cL0 : Int → Option Bool) (x7 : Bool) : Option Bool :=
  if x7 = true then
    some false
  else
    cL0 (IntKind.i64.wrap (x1 + 1))
def zb1 (N : Nat) (p0 : (List Int)) (p1 : Int) : Nat → Int → Option Bool
  | 0, _ => none
  | kL0 + 1, x1 =>
    if (decide (x1 < (p0.length : Int))) = true then
      (at? p0 x1).bind fun a9 =>
      if (decide (a9 < 0)) = true then
        zew N x1 (zb1 N p0 p1 kL0) true
      else
        (at? p0 x1).bind fun a11 =>
        zew N x1 (zb1 N p0 p1 kL0) (decide (a11 > 1099511627776))
    else
      some ((p0.length : Int) == p1)
def zeB (N : Nat) (p0 : (List Int)) (p1 : Int) : Option Bool :=
  zb1 N p0 p1 N 0
def za3 (N : Nat) (p0 : Int) (p1 : Int) (p2 : Int) : Option Bool :=
  some ((decide (p1 ≤ p0)) && (decide (p0 ≤ p2)))
def zbP (N : Nat) (p0 : zad) (x38 : Bool) : Option Bool :=
  if x38 = true then
    some false
  else
    if (if (decide (p0.State ≤ 2)) = true then ((p0.Start != 0) || ((decide (p0.State ≤ 4)) && (p0.End != 0))) else ((decide (p0.State ≤ 4)) && (p0.End != 0))) = true then
      some false
    else
      some (if (!p0.Ok) = true then ((!p0.Kill) || ((p0.State == 4) || (p0.State == 6))) else ((p0.State == 4) || ((p0.State == 5) && ((!p0.Kill) || (p0.State == 6)))))
def zbm (N : Nat) (p0 : zad) (x30 : Bool) : Option Bool :=
  if x30 = true then
    some false
  else
    (za3 N p0.Born 0 1099511627776).bind fun r41 =>
    if (!r41) = true then
      zbP N p0 true
    else
      (za3 N p0.Start 0 1099511627776).bind fun r43 =>
      if (!r43) = true then
        zbP N p0 true
      else
        (za3 N p0.End 0 1099511627776).bind fun r45 =>
        zbP N p0 (!r45)
def zaJ (N : Nat) (p0 : zad) (x20 : Bool) : Option Bool :=
  if x20 = true then
    some false
  else
    (za3 N p0.Wall 1 65536).bind fun r47 =>
    if (!r47) = true then
      zbm N p0 true
    else
      (za3 N p0.State 1 6).bind fun r49 =>
      if (!r49) = true then
        zbm N p0 true
      else
        (za3 N p0.Version 1 281474976710656).bind fun r51 =>
        if (!r51) = true then
          zbm N p0 true
        else
          (za3 N p0.Array 0 p0.Id).bind fun r53 =>
          zbm N p0 (!r53)
def zco (N : Nat) (p0 : zad) : Nat → Int → Option Bool
  | 0, _ => none
  | kL0 + 1, x1 =>
    if (decide (x1 < (p0.After.length : Int))) = true then
      (at? p0.After x1).bind fun a3 =>
      (za3 N a3.Job 1 (IntKind.i64.wrap (p0.Id - 1))).bind fun r5 =>
      if (!r5) = true then
        some false
      else
        zco N p0 kL0 (IntKind.i64.wrap (x1 + 1))
    else
      if (decide ((p0.After.length : Int) > 4)) = true then
        zaJ N p0 true
      else
        (za3 N p0.Id 1 1048576).bind fun r55 =>
        if (!r55) = true then
          zaJ N p0 true
        else
          (za3 N p0.User 0 7).bind fun r57 =>
          if (!r57) = true then
            zaJ N p0 true
          else
            (za3 N p0.Queue 0 7).bind fun r59 =>
            if (!r59) = true then
              zaJ N p0 true
            else
              (za3 N p0.Many 1 64).bind fun r61 =>
              if (!r61) = true then
                zaJ N p0 true
              else
                (zbd N p0.Need).bind fun r63 =>
                if (!r63) = true then
                  zaJ N p0 true
                else
                  (zbL N p0.Need ({ Cpu := 0, Mem := 0, Gpu := 0, Lic := 0 } : zac)).bind fun r65 =>
                  zaJ N p0 r65
def zdS (N : Nat) (p0 : zad) : Option Bool :=
  zco N p0 N 0
def zcz (N : Nat) (p0 : (List zai)) (p1 : Int) : Nat → Int → Option Int
  | 0, _ => none
  | kL0 + 1, x1 =>
    if (decide (x1 < (p0.length : Int))) = true then
      (at? p0 x1).bind fun a3 =>
      if (a3.Job == p1) = true then
        some x1
      else
        zcz N p0 p1 kL0 (IntKind.i64.wrap (x1 + 1))
    else
      some (-1)
def zep (N : Nat) (p0 : (List zai)) (p1 : Int) : Option Int :=
  zcz N p0 p1 N 0
def zdg (N : Nat) (p0 : zad) : Option Bool :=
  some ((p0.State == 3) || (p0.State == 4))
def zcY (N : Nat) (p1 : zac) (y9 : zac) (x10 : Int) (cL1 : Int → zac → Option Int) (x13 : Bool) : Option Int :=
  if x13 = true then
    (zcq N y9 p1).bind fun r15 =>
    cL1 (IntKind.i64.wrap (x10 + 1)) r15
  else
    some x10
def zbl (N : Nat) (p0 : zac) (p1 : zac) : Nat → Int → zac → Option Int
  | 0, _, _ => none
  | kL1 + 1, x10, y9 =>
    if (decide (x10 < 64)) = true then
      (zbL N y9 p0).bind fun r17 =>
      zcY N p1 y9 x10 (zbl N p0 p1 kL1) r17
    else
      zcY N p1 y9 x10 (zbl N p0 p1 kL1) false
def zcl (N : Nat) (p0 : zac) (p1 : zac) (x7 : Bool) : Option Int :=
  if x7 = true then
    some 0
  else
    zbl N p0 p1 N 0 p1
def zdb (N : Nat) (p0 : zac) (p1 : zac) : Option Int :=
  (zbd N p0).bind fun r19 =>
  if (!r19) = true then
    zcl N p0 p1 true
  else
    (zbd N p1).bind fun r21 =>
    if (!r21) = true then
      zcl N p0 p1 true
    else
      (zbL N p1 ({ Cpu := 0, Mem := 0, Gpu := 0, Lic := 0 } : zac)).bind fun r23 =>
      zcl N p0 p1 r23
def zb4 (N : Nat) (p0 : zab) (p1 : Int) (p2 : zac) : Nat → Int → Int → Option Int
  | 0, _, _ => none
  | kL0 + 1, x2, x3 =>
    (at? p0.Parts p1).bind fun a4 =>
    if (decide (x3 < (a4.length : Int))) = true then
      (at? p0.Parts p1).bind fun a7 =>
      (at? a7 x3).bind fun a9 =>
      (at? p0.Nodes a9).bind fun a11 =>
      (zdb N a11 p2).bind fun r13 =>
      zb4 N p0 p1 p2 kL0 (IntKind.i64.wrap (x2 + r13)) (IntKind.i64.wrap (x3 + 1))
    else
      some x2
def zdj (N : Nat) (p0 : zab) (p1 : Int) (p2 : zac) : Option Int :=
  if ((decide (p1 < 0)) || (decide (p1 ≥ (p0.Parts.length : Int)))) = true then
    some 0
  else
    zb4 N p0 p1 p2 N 0 0
def zcx (N : Nat) (x5 : Bool) : Option Bool :=
  some x5
def zdo (N : Nat) (p0 : zab) (p1 : Int) (p2 : Int) (p3 : zac) : Option Bool :=
  if (decide (p1 ≥ 0)) = true then
    if (decide (p1 < (p0.Queues.length : Int))) = true then
      if (decide (p2 ≥ 1)) = true then
        (at? p0.Queues p1).bind fun a6 =>
        (zdj N p0 a6.Part p3).bind fun r8 =>
        zcx N (decide (r8 ≥ p2))
      else
        zcx N false
    else
      zcx N false
  else
    zcx N false
def zcX (N : Nat) (x2 : Int) (cL0 : Int → Int → Option Int) (x4 : Int) : Option Int :=
  cL0 x4 (IntKind.i64.wrap (x2 + 1))
def za2 (N : Nat) (p0 : (List zak)) : Nat → Int → Int → Option Int
  | 0, _, _ => none
  | kL0 + 1, x1, x2 =>
    if (decide (x2 < (p0.length : Int))) = true then
      (at? p0 x2).bind fun a5 =>
      if (decide (a5.Many > 64)) = true then
        zcX N x2 (za2 N p0 kL0) (IntKind.i64.wrap (x1 + 64))
      else
        (at? p0 x2).bind fun a8 =>
        if (decide (a8.Many > 0)) = true then
          (at? p0 x2).bind fun a11 =>
          zcX N x2 (za2 N p0 kL0) (IntKind.i64.wrap (x1 + a11.Many))
        else
          zcX N x2 (za2 N p0 kL0) x1
    else
      some x1
def zd2 (N : Nat) (p0 : (List zak)) : Option Int :=
  za2 N p0 N 0 0
def zcE (N : Nat) (p0 : (List Int)) (p1 : Int) : Nat → Int → Option Bool
  | 0, _ => none
  | kL0 + 1, x1 =>
    if (decide (x1 < (p0.length : Int))) = true then
      (at? p0 x1).bind fun a3 =>
      if (a3 == p1) = true then
        some true
      else
        zcE N p0 p1 kL0 (IntKind.i64.wrap (x1 + 1))
    else
      some false
def zeC (N : Nat) (p0 : (List Int)) (p1 : Int) : Option Bool :=
  zcE N p0 p1 N 0
def zcw (N : Nat) (p2 : (List zak)) (a9 : (List Int)) : Nat → Int → Option Bool
  | 0, _ => none
  | kL1 + 1, x11 =>
    if (decide (x11 < (p2.length : Int))) = true then
      (at? p2 x11).bind fun a13 =>
      (zeC N a9 a13.Node).bind fun r15 =>
      if (!r15) = true then
        some false
      else
        zcw N p2 a9 kL1 (IntKind.i64.wrap (x11 + 1))
    else
      some true
def zby (N : Nat) (p0 : zab) (p1 : zad) (p2 : (List zak)) (x5 : Bool) : Option Bool :=
  if x5 = true then
    some false
  else
    (at? p0.Queues p1.Queue).bind fun a7 =>
    (at? p0.Parts a7.Part).bind fun a9 =>
    zcw N p2 a9 N 0
def zdn (N : Nat) (p0 : zab) (p1 : zad) (p2 : (List zak)) : Option Bool :=
  (zcb N p2 (p0.Nodes.length : Int)).bind fun r18 =>
  if (!r18) = true then
    zby N p0 p1 p2 true
  else
    (zd2 N p2).bind fun r20 =>
    if (r20 != p1.Many) = true then
      zby N p0 p1 p2 true
    else
      if (decide (p1.Queue < 0)) = true then
        zby N p0 p1 p2 true
      else
        zby N p0 p1 p2 (decide (p1.Queue ≥ (p0.Queues.length : Int)))
def zbI (N : Nat) (x33 : Bool) : Option Bool :=
  some x33
def zcM (N : Nat) (p0 : zab) (p1 : zag) (p2 : zad) (r8 : Int) : Nat → Int → Option Bool
  | 0, _ => none
  | kL5 + 1, x15 =>
    if (decide (x15 < (p2.After.length : Int))) = true then
      (at? p2.After x15).bind fun a17 =>
      (zb3 N p1.Jobs a17.Job).bind fun r19 =>
      if (decide (r19 < 0)) = true then
        some false
      else
        zcM N p0 p1 p2 r8 kL5 (IntKind.i64.wrap (x15 + 1))
    else
      (zdo N p0 p2.Queue p2.Many p2.Need).bind fun r22 =>
      if (!r22) = true then
        some false
      else
        (zdg N p2).bind fun r34 =>
        if (!r34) = true then
          zbI N true
        else
          if (decide (p1.Now < (IntKind.i64.wrap (p2.Start + p2.Wall)))) = true then
            (at? p1.Allocs r8).bind fun a36 =>
            if (decide (a36.Need = p2.Need)) = true then
              (at? p1.Allocs r8).bind fun a38 =>
              (zdn N p0 p2 a38.Shares).bind fun r40 =>
              zbI N r40
            else
              zbI N false
          else
            zbI N false
def zds (N : Nat) (p0 : zab) (p1 : zag) (p2 : zad) (r8 : Int) (x12 : Bool) : Option Bool :=
  if x12 = true then
    some false
  else
    if (decide (p2.State ≥ 5)) = true then
      some true
    else
      zcM N p0 p1 p2 r8 N 0
def zdl (N : Nat) (p0 : zab) (p1 : zag) (p2 : zad) (x7 : Int) : Option Bool :=
  (zep N p1.Allocs p2.Id).bind fun r8 =>
  if (decide (p2.Version > (IntKind.i64.wrap (p0.Versions + x7)))) = true then
    zds N p0 p1 p2 r8 true
  else
    (zdg N p2).bind fun r42 =>
    zds N p0 p1 p2 r8 (!((decide (r8 ≥ 0)) == r42))
def zdy (N : Nat) (p0 : zab) (p1 : zag) (p2 : zad) (x6 : Int) : Option Bool :=
  if (decide (p2.State ≥ 5)) = true then
    zdl N p0 p1 p2 3
  else
    zdl N p0 p1 p2 x6
def zdr (N : Nat) (p0 : zab) (p1 : zag) (p2 : zad) (x5 : Int) : Option Bool :=
  if (p2.State == 4) = true then
    zdy N p0 p1 p2 2
  else
    zdy N p0 p1 p2 x5
def zaQ (N : Nat) (p0 : zab) (p1 : zag) (p2 : zad) (x3 : Bool) : Option Bool :=
  if x3 = true then
    some false
  else
    if (p2.State == 3) = true then
      zdr N p0 p1 p2 1
    else
      zdr N p0 p1 p2 0
def zea (N : Nat) (p0 : zab) (p1 : zag) (p2 : zad) : Option Bool :=
  (zdS N p2).bind fun r47 =>
  if (!r47) = true then
    zaQ N p0 p1 p2 true
  else
    if (decide (p2.Id ≥ p1.Next)) = true then
      zaQ N p0 p1 p2 true
    else
      if (decide (p2.User ≥ p0.Users)) = true then
        zaQ N p0 p1 p2 true
      else
        if (decide (p2.Queue ≥ (p0.Queues.length : Int))) = true then
          zaQ N p0 p1 p2 true
        else
          if (decide (p2.Born > p1.Now)) = true then
            zaQ N p0 p1 p2 true
          else
            if (decide (p2.Start > p1.Now)) = true then
              zaQ N p0 p1 p2 true
            else
              zaQ N p0 p1 p2 (decide (p2.End > p1.Now))
def zbS (N : Nat) (x24 : Int) (cL3 : Int → Option Bool) (x34 : Bool) : Option Bool :=
  if x34 = true then
    some false
  else
    cL3 (IntKind.i64.wrap (x24 + 1))
def za8 (N : Nat) (p0 : zab) (p1 : zag) : Nat → Int → Option Bool
  | 0, _ => none
  | kL3 + 1, x24 =>
    if (decide (x24 < (p1.Jobs.length : Int))) = true then
      (at? p1.Jobs x24).bind fun a36 =>
      (zea N p0 p1 a36).bind fun r38 =>
      if (!r38) = true then
        zbS N x24 (za8 N p0 p1 kL3) true
      else
        if (decide (x24 > 0)) = true then
          (at? p1.Jobs (IntKind.i64.wrap (x24 - 1))).bind fun a40 =>
          (at? p1.Jobs x24).bind fun a42 =>
          zbS N x24 (za8 N p0 p1 kL3) (decide (a40.Id ≥ a42.Id))
        else
          zbS N x24 (za8 N p0 p1 kL3) false
    else
      some true
def zcg (N : Nat) (p0 : zab) (p1 : zag) : Nat → Int → Option Bool
  | 0, _ => none
  | kL2 + 1, x17 =>
    if (decide (x17 < (p1.Stamps.Queues.length : Int))) = true then
      (at? p1.Stamps.Queues x17).bind fun a19 =>
      (zbv N a19).bind fun r21 =>
      if (!r21) = true then
        some false
      else
        zcg N p0 p1 kL2 (IntKind.i64.wrap (x17 + 1))
    else
      za8 N p0 p1 N 0
def zaR (N : Nat) (p0 : zab) (p1 : zag) (x15 : Bool) : Option Bool :=
  if x15 = true then
    some false
  else
    zcg N p0 p1 N 0
def zaK (N : Nat) (p0 : zab) (p1 : zag) (x5 : Bool) : Option Bool :=
  if x5 = true then
    some false
  else
    if (decide ((p1.Jobs.length : Int) > p0.Jobs)) = true then
      zaR N p0 p1 true
    else
      (zdu N p0 p1).bind fun r44 =>
      if (!r44) = true then
        zaR N p0 p1 true
      else
        (zd0 N p0 p1).bind fun r46 =>
        if (!r46) = true then
          zaR N p0 p1 true
        else
          (zeB N p1.Use p0.Users).bind fun r48 =>
          if (!r48) = true then
            zaR N p0 p1 true
          else
            if ((p1.Stamps.Queues.length : Int) != (p0.Queues.length : Int)) = true then
              zaR N p0 p1 true
            else
              (zbv N p1.Stamps.Nodes).bind fun r50 =>
              zaR N p0 p1 (!r50)
def zc4 (N : Nat) (p0 : zab) (p1 : zag) : Option Bool :=
  (zc7 N p0).bind fun r52 =>
  if (!r52) = true then
    zaK N p0 p1 true
  else
    if (decide (p1.Now < 0)) = true then
      zaK N p0 p1 true
    else
      if (decide (p1.Now > 1099511627776)) = true then
        zaK N p0 p1 true
      else
        if (decide (p1.Next < 1)) = true then
          zaK N p0 p1 true
        else
          if (decide (p1.Next > (IntKind.i64.wrap (p0.Ids + 1)))) = true then
            zaK N p0 p1 true
          else
            if (decide (p1.Book < 1)) = true then
              zaK N p0 p1 true
            else
              (zbv N p1.Book).bind fun r54 =>
              zaK N p0 p1 (!r54)
def zbi (N : Nat) (r10 : (List zae)) (r11 : Int) : Nat → Int → Option Bool
  | 0, _ => none
  | kL1 + 1, x13 =>
    if (decide (x13 < (r10.length : Int))) = true then
      (at? r10 x13).bind fun a15 =>
      if ((a15.What != 6) && (a15.What != 7)) = true then
        some false
      else
        zbi N r10 r11 kL1 (IntKind.i64.wrap (x13 + 1))
    else
      some (r11 == 0)
def zbV (N : Nat) (p0 : zaC) (x8 : Bool) : Option Bool :=
  if x8 = true then
    some true
  else
    (ze8 N p0.S p0.St).bind fun (r10, r11) =>
    zbi N r10 r11 N 0
def zbW (N : Nat) (p0 : zaC) : Option Bool :=
  (zd3 N).bind fun r1 =>
  if (!r1) = true then
    some false
  else
    (zd9 N p0.S p0.St).bind fun r18 =>
    if (!r18) = true then
      zbV N p0 true
    else
      (zc4 N p0.S p0.St).bind fun r20 =>
      zbV N p0 (!r20)
end Go.Abs
