/-
  A part of the proof that contangolaw.TopTicked returns true: what the last text needs, and no more. No condition: no statement of the seat is proved here.
-/
import Derived.Shelf.Strings.OnBuilder
import Derived.Shelf.LaysM
import Derived.Shelf.LaysC
import Derived.Shelf.Strconv.Itoa3
import Derived.Shelf.Strconv.AtoiAll
import Derived.Shelf.Strings.Cut
import Derived.Shelf.Strings.Prefix
import Derived.Shelf.Slices.Turned
import Derived.Test.YticlpkgpmmhemaaGreatDoorProg
import Derived.Test.YticlpkgpmmhemaaGreatDoorTopTickedH
namespace Go.Proofs
open Go.Proofs.Tryz
open Go.Shelf
def Tryz.lays156_ren:Go.Shelf.Ren:=⟨fun | 156=>100 | 165=>158 | 166=>159 | 169=>160 | 240=>199 | 241=>200 | 276=>227 | 277=>228 | n=>n,fun | 31=>230 | 9=>9 | 3=>3 | 4=>4 | 0=>0 | 20=>20 | 72=>289 | 76=>293 | 70=>287 | 37=>78 | 75=>292 | 127=>316 | 164=>341 | 5=>5 | 80=>295 | n=>n,fun | n=>n⟩
theorem Tryz.lays156:Go.Proofs.Lays.n156 Tryz.prog Tryz.lays156_ren:={
  mixed:=by kernel_rfl
  f156:=Tryz.func100.trans (congrArg some (by kernel_rfl))
  f165:=Tryz.func158.trans (congrArg some (by kernel_rfl))
  f166:=Tryz.func159.trans (congrArg some (by kernel_rfl))
  f169:=Tryz.func160.trans (congrArg some (by kernel_rfl))
  f240:=Tryz.func199.trans (congrArg some (by kernel_rfl))
  f241:=Tryz.func200.trans (congrArg some (by kernel_rfl))
  f276:=Tryz.func227.trans (congrArg some (by kernel_rfl))
  f277:=Tryz.func228.trans (congrArg some (by kernel_rfl))
  t0:=underlying0
  a0:=isAgg0
  z0:=sizeOf0
  v0:=Tryz.zeroValue0
  t3:=underlying3
  a3:=isAgg3
  z3:=sizeOf3
  v3:=Tryz.zeroValue3
  t4:=underlying4
  a4:=isAgg4
  z4:=sizeOf4
  v4:=Tryz.zeroValue4
  t9:=underlying9
  a9:=isAgg9
  z9:=sizeOf9
  v9:=Tryz.zeroValue9
  t20:=underlying20
  a20:=isAgg20
  z20:=sizeOf20
  v20:=Tryz.zeroValue20
  t31:=underlying230
  a31:=isAgg230
  z31:=sizeOf230
  v31:=Tryz.zeroValue230
  t37:=underlying78
  a37:=isAgg78
  z37:=sizeOf78
  v37:=Tryz.zeroValue78
  t70:=underlying287
  a70:=isAgg287
  z70:=sizeOf287
  v70:=Tryz.zeroValue287
  t72:=underlying289
  a72:=isAgg289
  z72:=sizeOf289
  v72:=Tryz.zeroValue289
  t75:=underlying292
  a75:=isAgg292
  z75:=sizeOf292
  v75:=Tryz.zeroValue292
  t76:=underlying293
  a76:=isAgg293
  z76:=sizeOf293
  v76:=Tryz.zeroValue293
  t127:=underlying316
  a127:=isAgg316
  z127:=sizeOf316
  v127:=Tryz.zeroValue316
  t164:=underlying341
  a164:=isAgg341
  z164:=sizeOf341
  v164:=Tryz.zeroValue341 }
theorem Tryz.Builder_Extra_156:Builder.Extra Tryz.prog Tryz.lays156_ren:={
  sizeBuilder:=by kernel_rfl
  liesBuilder:=by kernel_rfl
  t5:=underlying5
  a5:=isAgg5
  z5:=sizeOf5
  v5:=Tryz.zeroValue5
  infoByte:=by kernel_rfl
  cellsByte:=by kernel_rfl
  sizeByte:=by kernel_rfl
  neB5:=by decide }
open Go.RowKit in
theorem Tryz.strings_Join_none (a : Option Addr) (c : Nat) (sep : ByteArray) (w : World) :
    Calls Tryz.prog 100 #[.slice a 0 c,.string sep] w fun e w'=>e = .returned (.string ⟨#[]⟩) ∧ w' = w:=Any.strings_Join_none Tryz.lays156 Tryz.Builder_Extra_156 a c sep w
open Go.RowKit in
theorem Tryz.strings_Join (bk o c : Nat) (xs : List ByteArray) (sep : ByteArray) (w : World) (hcells : ∀ (j : Nat) x, xs[j]? = some x → w.cell? ⟨bk, o + j, none⟩ = some (.string x)) (hbk : bk < w.heap.size) (hN : xs.length ≤ 140737488355328) (hcap : xs.length ≤ c) (hlen : (Lib.join (xs.map (·.data.toList)) sep.data.toList).length ≤ 140737488355328) :
    Calls Tryz.prog 100 #[.slice (some ⟨bk,o,none⟩) xs.length c,.string sep] w fun e w'=>e = .returned (.string ⟨(Lib.join (xs.map (·.data.toList)) sep.data.toList).toArray⟩) ∧ Below w.heap.size w w':=Any.strings_Join Tryz.lays156 Tryz.Builder_Extra_156 bk o c xs sep w hcells hbk hN hcap hlen
def Tryz.laysM171_ren:Go.Shelf.Ren:=⟨fun | 171=>99 | 243=>157 | 246=>198 | 283=>223 | 284=>224 | 285=>225 | 286=>226 | 129=>240 | 317=>239 | 318=>241 | 319=>242 | 320=>243 | 337=>253 | 338=>254 | n=>n,fun | 3=>3 | 9=>9 | 2=>2 | 4=>4 | 171=>335 | 0=>0 | 53=>336 | 37=>78 | 5=>5 | 173=>339 | 212=>349 | 51=>350 | 20=>20 | 213=>351 | 46=>251 | 232=>369 | 233=>370 | n=>n,fun | 17=>1 | 18=>4 | 19=>5 | n=>n⟩
theorem Tryz.laysM171:Go.Proofs.LaysM.n171 Tryz.prog Tryz.laysM171_ren:={
  mixed:=by kernel_rfl
  f129:=Tryz.func240.trans (congrArg some (by kernel_rfl))
  f171:=Tryz.func99.trans (congrArg some (by kernel_rfl))
  f243:=Tryz.func157.trans (congrArg some (by kernel_rfl))
  f246:=Tryz.func198.trans (congrArg some (by kernel_rfl))
  f283:=Tryz.func223.trans (congrArg some (by kernel_rfl))
  f284:=Tryz.func224.trans (congrArg some (by kernel_rfl))
  f285:=Tryz.func225.trans (congrArg some (by kernel_rfl))
  f286:=Tryz.func226.trans (congrArg some (by kernel_rfl))
  f317:=Tryz.func239.trans (congrArg some (by kernel_rfl))
  f318:=Tryz.func241.trans (congrArg some (by kernel_rfl))
  f319:=Tryz.func242.trans (congrArg some (by kernel_rfl))
  f320:=Tryz.func243.trans (congrArg some (by kernel_rfl))
  f337:=Tryz.func253.trans (congrArg some (by kernel_rfl))
  f338:=Tryz.func254.trans (congrArg some (by kernel_rfl))
  t0:=underlying0
  a0:=isAgg0
  z0:=sizeOf0
  v0:=Tryz.zeroValue0
  t2:=underlying2
  a2:=isAgg2
  z2:=sizeOf2
  v2:=Tryz.zeroValue2
  t3:=underlying3
  a3:=isAgg3
  z3:=sizeOf3
  v3:=Tryz.zeroValue3
  t4:=underlying4
  a4:=isAgg4
  z4:=sizeOf4
  v4:=Tryz.zeroValue4
  t5:=underlying5
  a5:=isAgg5
  z5:=sizeOf5
  v5:=Tryz.zeroValue5
  t9:=underlying9
  a9:=isAgg9
  z9:=sizeOf9
  v9:=Tryz.zeroValue9
  t20:=underlying20
  a20:=isAgg20
  z20:=sizeOf20
  v20:=Tryz.zeroValue20
  t37:=underlying78
  a37:=isAgg78
  z37:=sizeOf78
  v37:=Tryz.zeroValue78
  t46:=underlying251
  a46:=isAgg251
  z46:=sizeOf251
  v46:=Tryz.zeroValue251
  t51:=underlying350
  a51:=isAgg350
  z51:=sizeOf350
  v51:=Tryz.zeroValue350
  t53:=underlying336
  a53:=isAgg336
  z53:=sizeOf336
  v53:=Tryz.zeroValue336
  t171:=underlying335
  a171:=isAgg335
  z171:=sizeOf335
  v171:=Tryz.zeroValue335
  t173:=underlying339
  a173:=isAgg339
  z173:=sizeOf339
  v173:=Tryz.zeroValue339
  t212:=underlying349
  a212:=isAgg349
  z212:=sizeOf349
  v212:=Tryz.zeroValue349
  t213:=underlying351
  a213:=isAgg351
  z213:=sizeOf351
  t232:=underlying369
  a232:=isAgg369
  z232:=sizeOf369
  v232:=Tryz.zeroValue369
  t233:=underlying370
  a233:=isAgg370
  z233:=sizeOf370
  v233:=Tryz.zeroValue370
  g17:=by kernel_rfl
  g18:=by kernel_rfl
  g19:=by kernel_rfl
  i0:=by kernel_rfl
  i2:=by kernel_rfl
  i3:=by kernel_rfl
  i4:=by kernel_rfl
  i5:=by kernel_rfl
  i9:=by kernel_rfl
  i20:=by kernel_rfl
  i37:=by kernel_rfl
  i46:=by kernel_rfl
  i51:=by kernel_rfl
  i53:=by kernel_rfl
  i171:=by kernel_rfl
  i173:=by kernel_rfl
  i212:=by kernel_rfl
  i232:=by kernel_rfl
  i233:=by kernel_rfl
  m17:=by kernel_rfl
  m18:=by kernel_rfl
  m19:=by kernel_rfl }
open Go.RowKit Go.Sort Go.Lib in
theorem Tryz.strconv_Itoa (n : Int) (h0 : -9223372036854775808 ≤ n) (h1 : n ≤ 9223372036854775807) (w : World) (htab : Lib.TabIs Tryz.prog w "internal/strconv.uint64pow10" .u64 Lib.pow10Tab) :
    Calls Tryz.prog 99 #[.int .i64 n] w fun e w'=>e = .returned (.string ⟨(Lib.itoa n).toArray⟩) ∧ ∃ k os,w' = grow (w.drewN k) os:=Any.strconv_Itoa Tryz.laysM171 n h0 h1 w htab
def Tryz.laysC172_ren:Go.Shelf.Ren:=⟨fun | 172=>209 | 244=>236 | 245=>237 | 247=>247 | 279=>248 | 280=>249 | 281=>250 | 282=>251 | 287=>255 | 316=>256 | 171=>99 | 205=>257 | 321=>258 | 322=>259 | 243=>157 | 246=>198 | 283=>223 | 284=>224 | 285=>225 | 286=>226 | 129=>240 | 317=>239 | 318=>241 | 319=>242 | 320=>243 | 337=>253 | 338=>254 | n=>n,fun | 9=>9 | 3=>3 | 75=>292 | 76=>293 | 4=>4 | 5=>5 | 167=>356 | 37=>78 | 0=>0 | 85=>357 | 2=>2 | 168=>359 | 53=>336 | 175=>363 | 46=>251 | 210=>367 | 127=>316 | 145=>374 | 143=>372 | 21=>21 | 171=>335 | 173=>339 | 212=>349 | 51=>350 | 20=>20 | 213=>351 | 232=>369 | 233=>370 | 80=>295 | n=>n,fun | 15=>2 | 16=>3 | 17=>1 | 18=>4 | 19=>5 | n=>n⟩
theorem Tryz.laysC172:Go.Proofs.LaysC.n172 Tryz.prog Tryz.laysC172_ren:={
  mixed:=by kernel_rfl
  f129:=Tryz.func240.trans (congrArg some (by kernel_rfl))
  f171:=Tryz.func99.trans (congrArg some (by kernel_rfl))
  f172:=Tryz.func209.trans (congrArg some (by kernel_rfl))
  f205:=Tryz.func257.trans (congrArg some (by kernel_rfl))
  f243:=Tryz.func157.trans (congrArg some (by kernel_rfl))
  f244:=Tryz.func236.trans (congrArg some (by kernel_rfl))
  f245:=Tryz.func237.trans (congrArg some (by kernel_rfl))
  f246:=Tryz.func198.trans (congrArg some (by kernel_rfl))
  f247:=Tryz.func247.trans (congrArg some (by kernel_rfl))
  f279:=Tryz.func248.trans (congrArg some (by kernel_rfl))
  f280:=Tryz.func249.trans (congrArg some (by kernel_rfl))
  f281:=Tryz.func250.trans (congrArg some (by kernel_rfl))
  f282:=Tryz.func251.trans (congrArg some (by kernel_rfl))
  f283:=Tryz.func223.trans (congrArg some (by kernel_rfl))
  f284:=Tryz.func224.trans (congrArg some (by kernel_rfl))
  f285:=Tryz.func225.trans (congrArg some (by kernel_rfl))
  f286:=Tryz.func226.trans (congrArg some (by kernel_rfl))
  f287:=Tryz.func255.trans (congrArg some (by kernel_rfl))
  f316:=Tryz.func256.trans (congrArg some (by kernel_rfl))
  f317:=Tryz.func239.trans (congrArg some (by kernel_rfl))
  f318:=Tryz.func241.trans (congrArg some (by kernel_rfl))
  f319:=Tryz.func242.trans (congrArg some (by kernel_rfl))
  f320:=Tryz.func243.trans (congrArg some (by kernel_rfl))
  f321:=Tryz.func258.trans (congrArg some (by kernel_rfl))
  f322:=Tryz.func259.trans (congrArg some (by kernel_rfl))
  f337:=Tryz.func253.trans (congrArg some (by kernel_rfl))
  f338:=Tryz.func254.trans (congrArg some (by kernel_rfl))
  t0:=underlying0
  a0:=isAgg0
  z0:=sizeOf0
  v0:=Tryz.zeroValue0
  t2:=underlying2
  a2:=isAgg2
  z2:=sizeOf2
  v2:=Tryz.zeroValue2
  t3:=underlying3
  a3:=isAgg3
  z3:=sizeOf3
  v3:=Tryz.zeroValue3
  t4:=underlying4
  a4:=isAgg4
  z4:=sizeOf4
  v4:=Tryz.zeroValue4
  t5:=underlying5
  a5:=isAgg5
  z5:=sizeOf5
  v5:=Tryz.zeroValue5
  t9:=underlying9
  a9:=isAgg9
  z9:=sizeOf9
  v9:=Tryz.zeroValue9
  t20:=underlying20
  a20:=isAgg20
  z20:=sizeOf20
  v20:=Tryz.zeroValue20
  t21:=underlying21
  a21:=isAgg21
  z21:=sizeOf21
  v21:=Tryz.zeroValue21
  t37:=underlying78
  a37:=isAgg78
  z37:=sizeOf78
  v37:=Tryz.zeroValue78
  t46:=underlying251
  a46:=isAgg251
  z46:=sizeOf251
  v46:=Tryz.zeroValue251
  t51:=underlying350
  a51:=isAgg350
  z51:=sizeOf350
  v51:=Tryz.zeroValue350
  t53:=underlying336
  a53:=isAgg336
  z53:=sizeOf336
  v53:=Tryz.zeroValue336
  t75:=underlying292
  a75:=isAgg292
  z75:=sizeOf292
  v75:=Tryz.zeroValue292
  t76:=underlying293
  a76:=isAgg293
  z76:=sizeOf293
  v76:=Tryz.zeroValue293
  t85:=underlying357
  a85:=isAgg357
  z85:=sizeOf357
  v85:=Tryz.zeroValue357
  t127:=underlying316
  a127:=isAgg316
  z127:=sizeOf316
  v127:=Tryz.zeroValue316
  t143:=underlying372
  a143:=isAgg372
  z143:=sizeOf372
  v143:=Tryz.zeroValue372
  t145:=underlying374
  a145:=isAgg374
  z145:=sizeOf374
  v145:=Tryz.zeroValue374
  t167:=underlying356
  a167:=isAgg356
  z167:=sizeOf356
  v167:=Tryz.zeroValue356
  t168:=underlying359
  a168:=isAgg359
  z168:=sizeOf359
  v168:=Tryz.zeroValue359
  t171:=underlying335
  a171:=isAgg335
  z171:=sizeOf335
  v171:=Tryz.zeroValue335
  t173:=underlying339
  a173:=isAgg339
  z173:=sizeOf339
  v173:=Tryz.zeroValue339
  t175:=underlying363
  a175:=isAgg363
  z175:=sizeOf363
  v175:=Tryz.zeroValue363
  t210:=underlying367
  a210:=isAgg367
  z210:=sizeOf367
  v210:=Tryz.zeroValue367
  t212:=underlying349
  a212:=isAgg349
  z212:=sizeOf349
  v212:=Tryz.zeroValue349
  t213:=underlying351
  a213:=isAgg351
  z213:=sizeOf351
  t232:=underlying369
  a232:=isAgg369
  z232:=sizeOf369
  v232:=Tryz.zeroValue369
  t233:=underlying370
  a233:=isAgg370
  z233:=sizeOf370
  v233:=Tryz.zeroValue370
  g15:=by kernel_rfl
  g16:=by kernel_rfl
  g17:=by kernel_rfl
  g18:=by kernel_rfl
  g19:=by kernel_rfl
  t80:=underlying295
  a80:=isAgg295
  z80:=sizeOf295
  v80:=Tryz.zeroValue295
  i0:=by kernel_rfl
  i2:=by kernel_rfl
  i3:=by kernel_rfl
  i4:=by kernel_rfl
  i5:=by kernel_rfl
  i9:=by kernel_rfl
  i20:=by kernel_rfl
  i21:=by kernel_rfl
  i37:=by kernel_rfl
  i46:=by kernel_rfl
  i51:=by kernel_rfl
  i53:=by kernel_rfl
  i75:=by kernel_rfl
  i76:=by kernel_rfl
  i80:=by kernel_rfl
  i85:=by kernel_rfl
  i127:=by kernel_rfl
  i143:=by kernel_rfl
  i145:=by kernel_rfl
  i167:=by kernel_rfl
  i168:=by kernel_rfl
  i171:=by kernel_rfl
  i173:=by kernel_rfl
  i175:=by kernel_rfl
  i210:=by kernel_rfl
  i212:=by kernel_rfl
  i232:=by kernel_rfl
  i233:=by kernel_rfl
  m15:=by kernel_rfl
  m16:=by kernel_rfl
  m17:=by kernel_rfl
  m18:=by kernel_rfl
  m19:=by kernel_rfl
  c0:=by kernel_rfl
  c2:=by kernel_rfl
  c3:=by kernel_rfl
  c4:=by kernel_rfl
  c5:=by kernel_rfl
  c9:=by kernel_rfl
  c20:=by kernel_rfl
  c21:=by kernel_rfl
  c37:=by kernel_rfl
  c46:=by kernel_rfl
  c51:=by kernel_rfl
  c53:=by kernel_rfl
  c75:=by kernel_rfl
  c76:=by kernel_rfl
  c80:=by kernel_rfl
  c85:=by kernel_rfl
  c127:=by kernel_rfl
  c143:=by kernel_rfl
  c145:=by kernel_rfl
  c167:=by kernel_rfl
  c168:=by kernel_rfl
  c171:=by kernel_rfl
  c173:=by kernel_rfl
  c175:=by kernel_rfl
  c210:=by kernel_rfl
  c212:=by kernel_rfl
  c213:=by kernel_rfl
  c232:=by kernel_rfl
  c233:=by kernel_rfl }
open Go.RowKit in
theorem Tryz.strconv_Atoi_ok (s : ByteArray) (hmax : s.size ≤ 9223372036854775806) (v : Int) (h : Lib.atoiAll s.data.toList = .ok v) (w : World) :
    Calls Tryz.prog 209 #[.string s] w fun e w'=>e = .returned (.tuple #[.int .i64 v,.nilIface]) ∧ (w' = w ∨ ∃ t,w' = Lib.bytesWorld w 5 t):=Any.strconv_Atoi_ok Tryz.laysC172 s hmax v h w
open Go.RowKit in
theorem Tryz.strconv_Atoi_synt (s : ByteArray) (hlim : s.size ≤ 281474976710656) (h1 : ∀ v, Lib.atoiAll s.data.toList ≠ .ok v) (h2 : Lib.atoiAll s.data.toList ≠ .range) (ev : Value) (w : World) (hv : w.cell? ⟨2, 0, none⟩ = some ev) (hev : ev = .nilIface ∨ ∃ te pe, ev = .iface te pe) :
    Calls Tryz.prog 209 #[.string s] w fun e w'=>∃ N,e = .returned (.tuple #[.int .i64 (0),.iface 359 (.pointer (some ⟨N,0,none⟩))]) ∧ w.heap.size ≤ N ∧ w'.heap[N]? = some (.cells #[.string ⟨#[65,116,111,105]⟩,.string s,ev] 367 (0,0)) ∧ Below w.heap.size w w':=by
  refine Any.strconv_Atoi_syntax Tryz.laysC172 s hlim ?_ ev w hv hev
  cases hq:Lib.atoiAll s.data.toList with
  | ok v=>exact (h1 v hq).elim
  | range=>exact (h2 hq).elim
  | _=>rfl
open Go.RowKit in
theorem Tryz.strconv_Atoi_range (s : ByteArray) (hlim : s.size ≤ 281474976710656) (h : Lib.atoiAll s.data.toList = .range) (ev : Value) (w : World) (hv : w.cell? ⟨3, 0, none⟩ = some ev) (hev : ev = .nilIface ∨ ∃ te pe, ev = .iface te pe) :
    Calls Tryz.prog 209 #[.string s] w fun e w'=>∃ N,e = .returned (.tuple #[.int .i64 (Lib.atoiSat s.data.toList),.iface 359 (.pointer (some ⟨N,0,none⟩))]) ∧ w.heap.size ≤ N ∧ w'.heap[N]? = some (.cells #[.string ⟨#[65,116,111,105]⟩,.string s,ev] 367 (0,0)) ∧ Below w.heap.size w w':=Any.strconv_Atoi_range Tryz.laysC172 s hlim h ev w hv hev
def Tryz.lays145_ren:Go.Shelf.Ren:=⟨fun | 145=>121 | 220=>170 | 219=>208 | 217=>232 | 225=>233 | 224=>234 | 267=>235 | 266=>245 | 314=>246 | n=>n,fun | 9=>9 | 4=>4 | 59=>257 | 3=>3 | 5=>5 | 46=>251 | 146=>354 | 51=>350 | n=>n,fun | 1=>0 | n=>n⟩
theorem Tryz.lays145:Go.Proofs.Lays.n145 Tryz.prog Tryz.lays145_ren:={
  mixed:=by kernel_rfl
  f145:=Tryz.func121.trans (congrArg some (by kernel_rfl))
  f217:=Tryz.func232.trans (congrArg some (by kernel_rfl))
  f219:=Tryz.func208.trans (congrArg some (by kernel_rfl))
  f220:=Tryz.func170.trans (congrArg some (by kernel_rfl))
  f224:=Tryz.func234.trans (congrArg some (by kernel_rfl))
  f225:=Tryz.func233.trans (congrArg some (by kernel_rfl))
  f266:=Tryz.func245.trans (congrArg some (by kernel_rfl))
  f267:=Tryz.func235.trans (congrArg some (by kernel_rfl))
  f314:=Tryz.func246.trans (congrArg some (by kernel_rfl))
  t3:=underlying3
  a3:=isAgg3
  z3:=sizeOf3
  v3:=Tryz.zeroValue3
  t4:=underlying4
  a4:=isAgg4
  z4:=sizeOf4
  v4:=Tryz.zeroValue4
  t5:=underlying5
  a5:=isAgg5
  z5:=sizeOf5
  v5:=Tryz.zeroValue5
  t9:=underlying9
  a9:=isAgg9
  z9:=sizeOf9
  v9:=Tryz.zeroValue9
  t46:=underlying251
  a46:=isAgg251
  z46:=sizeOf251
  v46:=Tryz.zeroValue251
  t51:=underlying350
  a51:=isAgg350
  z51:=sizeOf350
  v51:=Tryz.zeroValue350
  t59:=underlying257
  a59:=isAgg257
  z59:=sizeOf257
  v59:=Tryz.zeroValue257
  t146:=underlying354
  a146:=isAgg354
  z146:=sizeOf354
  v146:=Tryz.zeroValue354
  g1:=by kernel_rfl }
open Go.RowKit Go.Lib in
theorem Tryz.strings_Cut (s sep : ByteArray) (m : Int) (w : World) (hs : s.size < 4294967281) (hm : w.cell? ⟨0, 0, none⟩ = some (.int .i64 m)) :
    Calls Tryz.prog 121 #[.string s,.string sep] w fun e w'=>e = .returned (.tuple #[.string ⟨(Lib.cut s.data.toList sep.data.toList).1.toArray⟩,.string ⟨(Lib.cut s.data.toList sep.data.toList).2.1.toArray⟩,.bool (Lib.cut s.data.toList sep.data.toList).2.2]) ∧ ∃ n,w' = w.drewN n:=Any.strings_Cut Tryz.lays145 s sep m w hs hm
def Tryz.lays100_ren:Go.Shelf.Ren:=⟨fun | 100=>173 | 207=>210 | n=>n,fun | 9=>9 | 4=>4 | 3=>3 | n=>n,fun | n=>n⟩
theorem Tryz.lays100:Go.Proofs.Lays.n100 Tryz.prog Tryz.lays100_ren:={
  mixed:=by kernel_rfl
  f100:=Tryz.func173.trans (congrArg some (by kernel_rfl))
  f207:=Tryz.func210.trans (congrArg some (by kernel_rfl))
  t3:=underlying3
  a3:=isAgg3
  z3:=sizeOf3
  v3:=Tryz.zeroValue3
  t4:=underlying4
  a4:=isAgg4
  z4:=sizeOf4
  v4:=Tryz.zeroValue4
  t9:=underlying9
  a9:=isAgg9
  z9:=sizeOf9
  v9:=Tryz.zeroValue9 }
open Go.RowKit Go.Lib in
theorem Tryz.strings_HasSuffix (s p : ByteArray) (w : World) (hs : s.size ≤ 9223372036854775807) :
    Calls Tryz.prog 173 #[.string s,.string p] w fun e w'=>e = .returned (.bool (Lib.hasSuffix s.data.toList p.data.toList)) ∧ w' = w:=Any.strings_HasSuffix Tryz.lays100 s p w hs
def Tryz.lays107_ren:Go.Shelf.Ren:=⟨fun | 107=>163 | 108=>203 | n=>n,fun | 28=>29 | 3=>3 | 4=>4 | 0=>0 | n=>n,fun | n=>n⟩
theorem Tryz.lays107:Go.Proofs.Lays.n107 Tryz.prog Tryz.lays107_ren:={
  mixed:=by kernel_rfl
  f107:=Tryz.func163.trans (congrArg some (by kernel_rfl))
  f108:=Tryz.func203.trans (congrArg some (by kernel_rfl))
  t0:=underlying0
  a0:=isAgg0
  z0:=sizeOf0
  v0:=Tryz.zeroValue0
  t3:=underlying3
  a3:=isAgg3
  z3:=sizeOf3
  v3:=Tryz.zeroValue3
  t4:=underlying4
  a4:=isAgg4
  z4:=sizeOf4
  v4:=Tryz.zeroValue4
  t28:=underlying29
  a28:=isAgg29
  z28:=sizeOf29
  v28:=Tryz.zeroValue29 }
open Go.Lib in
theorem Tryz.slices_Contains_int (b off n c : Nat) (zs : List Int) (x : Int) (w : World) (hz : n ≤ zs.length) (hbig : n ≤ 9223372036854775807) (hc : ∀ j, j < zs.length → w.cell? ⟨b, off + j, none⟩ = some (.int .i64 (zs.getD j 0))) :
    Calls Tryz.prog 163 #[.slice (some ⟨b,off,none⟩) n c,.int .i64 x] w fun e w'=>e = .returned (.bool ((zs.take n).contains x)) ∧ w' = w:=Any.slices_Contains_int Tryz.lays107 b off n c zs x w hz hbig hc
open Go.Lib in
theorem Tryz.slices_Contains_int_empty (a : Option Addr) (c : Nat) (x : Int) (w : World) :
    Calls Tryz.prog 163 #[.slice a 0 c,.int .i64 x] w fun e w'=>e = .returned (.bool false) ∧ w' = w:=Any.slices_Contains_int_empty Tryz.lays107 a c x w
def Tryz.lays114_ren:Go.Shelf.Ren:=⟨fun | 114=>177 | n=>n,fun | 28=>29 | 3=>3 | 4=>4 | 9=>9 | 20=>20 | 0=>0 | n=>n,fun | n=>n⟩
theorem Tryz.lays114:Go.Proofs.Lays.n114 Tryz.prog Tryz.lays114_ren:={
  mixed:=by kernel_rfl
  f114:=Tryz.func177.trans (congrArg some (by kernel_rfl))
  t0:=underlying0
  a0:=isAgg0
  z0:=sizeOf0
  v0:=Tryz.zeroValue0
  t3:=underlying3
  a3:=isAgg3
  z3:=sizeOf3
  v3:=Tryz.zeroValue3
  t4:=underlying4
  a4:=isAgg4
  z4:=sizeOf4
  v4:=Tryz.zeroValue4
  t9:=underlying9
  a9:=isAgg9
  z9:=sizeOf9
  v9:=Tryz.zeroValue9
  t20:=underlying20
  a20:=isAgg20
  z20:=sizeOf20
  v20:=Tryz.zeroValue20
  t28:=underlying29
  a28:=isAgg29
  z28:=sizeOf29
  v28:=Tryz.zeroValue29 }
open Go.Lib in
theorem Tryz.slices_Min_int (b off n c : Nat) (zs : List Int) (w : World) (hn : 0 < n) (hz : n ≤ zs.length) (hbig : n ≤ 9223372036854775807) (hc : ∀ j, j < zs.length → w.cell? ⟨b, off + j, none⟩ = some (.int .i64 (zs.getD j 0))) :
    Calls Tryz.prog 177 #[.slice (some ⟨b,off,none⟩) n c] w fun e w'=>e = .returned (.int .i64 (Lib.minOf (zs.take n))) ∧ w' = w:=Any.slices_Min_int Tryz.lays114 b off n c zs w hn hz hbig hc
end Go.Proofs
