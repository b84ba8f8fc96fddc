import Derived.Test.YtkjoilgpmngndaaGreatQ35
set_option maxHeartbeats 40000000
set_option maxRecDepth 100000
set_option linter.all false
namespace Go.Proofs.YtkjoilgpmngndaaGreat.Wk
open Go.RowKit Go.Shelf au YtkjoilgpmngndaaGreatW.aj YtkjoilgpmngndaaGreatW.aJ YtkjoilgpmngndaaGreatW.ek
def lg.T36:Bool×List (List Nat×List Nat):=(true,[([],[]),([],[]),([],[]),([2],[2]),([],[]),([4],[4]),([0,1,3,5],[0,1,3,5]),([],[]),([],[]),([],[]),([9],[9]),([],[]),([11],[11]),([7,8,10,12,6],[7,8,10,12]),([6,13],[6,13]),([14,13],[14]),([15,15],[15]),([15,16],[15,16]),([17,16,0,1,2,3,4,5,6,7,8,9,10,11,12,13,14,15,16,17],[17])])
def lg.Jb:List Nat:=[0,0,0,4,0,16,63,0,0,0,512,0,2048,8191,16383,32767,65535,131071,262143]
theorem lg.aaX:dW .any (opsOf Tryz.f4 36)=lg.T36:=by kernel_rfl
theorem lg.Zo:bJ lg.T36.2 lg.Jb=true:=by kernel_rfl
def yK:Nat->Code->Code
 |0,c=>c
 |n+1,.seq _ b=>yK n b
 |_,c=>c
def leftOf:Code->Code
 | .seq a _=>a
 |c=>c
def Wl:Code->Bool
 | .seq _ _=>true
 |_=>false
theorem zq:∀(n:Nat) (c:Code),Wl (yK n c)=true->yK n c= .seq (leftOf (yK n c)) (yK (n+1) c)
 |0,c,h=>by cases c<;>first|rfl|cases h
 |n+1,c,h=>by
  cases c with
  |seq x y=>exact zq n y h
  |_=>cases h
noncomputable def jK(n:Nat):Code:=yK n ((Tryz.f4.body).getD .skip)
def DF(p1 p2 p5 p7 p8 p11 p12 p13 p14:Value)(u:Nat->Value):Array Value:=#[u 0,p1,p2,u 3,u 4,p5,u 6,p7,p8,u 9,u 10,p11,p12,p13,p14,u 15,u 16,u 17,u 18,u 19,u 20,u 21,u 22,u 23,u 24,u 25,u 26,u 27,u 28,u 29,u 30,u 31,u 32,u 33,u 34,u 35,u 36,u 37,u 38,u 39,u 40,u 41,u 42,u 43,u 44,u 45,u 46,u 47,u 48,u 49,u 50,u 51,u 52,u 53,u 54,u 55,u 56,u 57,u 58,u 59,u 60,u 61,u 62,u 63,u 64,u 65,u 66,u 67,u 68,u 69,u 70,u 71,u 72,u 73,u 74,u 75,u 76,u 77,u 78,u 79,u 80,u 81,u 82,u 83,u 84,u 85,u 86,u 87,u 88,u 89,u 90,u 91,u 92,u 93,u 94,u 95,u 96,u 97,u 98,u 99,u 100,u 101,u 102,u 103,u 104,u 105,u 106,u 107,u 108,u 109,u 110,u 111,u 112,u 113,u 114,u 115,u 116,u 117,u 118,u 119,u 120,u 121,u 122,u 123,u 124,u 125,u 126,u 127,u 128,u 129,u 130,u 131,u 132,u 133,u 134,u 135,u 136,u 137,u 138,u 139,u 140,u 141,u 142,u 143,u 144,u 145,u 146,u 147,u 148,u 149,u 150,u 151,u 152,u 153,u 154,u 155,u 156,u 157,u 158,u 159,u 160,u 161,u 162,u 163,u 164,u 165,u 166,u 167,u 168,u 169,u 170,u 171,u 172,u 173,u 174,u 175,u 176,u 177,u 178,u 179,u 180,u 181,u 182,u 183,u 184,u 185,u 186,u 187,u 188,u 189,u 190,u 191,u 192,u 193,u 194,u 195,u 196,u 197,u 198,u 199,u 200,u 201,u 202,u 203,u 204,u 205,u 206,u 207,u 208,u 209,u 210,u 211,u 212,u 213,u 214,u 215,u 216,u 217,u 218,u 219,u 220,u 221,u 222,u 223,u 224,u 225,u 226,u 227,u 228,u 229,u 230,u 231,u 232,u 233,u 234,u 235,u 236,u 237,u 238,u 239,u 240,u 241,u 242,u 243,u 244,u 245,u 246,u 247,u 248,u 249,u 250,u 251,u 252,u 253,u 254,u 255,u 256,u 257,u 258,u 259,u 260,u 261,u 262,u 263,u 264,u 265,u 266,u 267,u 268,u 269,u 270,u 271,u 272,u 273,u 274,u 275,u 276,u 277,u 278,u 279,u 280,u 281,u 282,u 283,u 284,u 285,u 286,u 287,u 288,u 289,u 290,u 291,u 292,u 293,u 294,u 295,u 296,u 297,u 298,u 299,u 300,u 301,u 302,u 303,u 304,u 305,u 306,u 307,u 308,u 309,u 310,u 311,u 312,u 313,u 314,u 315,u 316,u 317,u 318,u 319,u 320,u 321,u 322,u 323,u 324,u 325,u 326,u 327,u 328,u 329,u 330,u 331,u 332,u 333,u 334,u 335,u 336,u 337,u 338,u 339,u 340,u 341,u 342,u 343,u 344,u 345,u 346,u 347,u 348,u 349,u 350,u 351,u 352,u 353,u 354,u 355,u 356,u 357,u 358,u 359,u 360,u 361,u 362,u 363,u 364,u 365,u 366,u 367,u 368,u 369,u 370,u 371,u 372,u 373,u 374,u 375,u 376,u 377,u 378,u 379,u 380,u 381,u 382,u 383,u 384,u 385,u 386,u 387,u 388,u 389,u 390,u 391,u 392,u 393,u 394,u 395,u 396,u 397,u 398,u 399,u 400,u 401,u 402,u 403,u 404,u 405,u 406,u 407,u 408,u 409,u 410,u 411,u 412,u 413,u 414]
def lL(w0:World):Exit->Act->World->Prop:=bodyPost Tryz.prog Tryz.f4 (λe w'=>e= .returned (.bool true)/\Below w0.heap.size w0 w')
theorem dR(n:Nat){Q:Exit->Act->World->Prop}{a:Act}{w:World}(h:Wl (jK n)=true)(hh:∀K:Act->World->Prop,(∀a' w',Code.wp Tryz.prog (jK (n+1)) Q a' w'->K a' w')->Code.wp Tryz.prog (leftOf (jK n)) (Exit.then K Q) a w):Code.wp Tryz.prog (jK n) Q a w:=by
 have e:jK n= .seq (leftOf (jK n)) (jK (n+1)):=zq n _ h
 rw[e]
 exact wp_seq_k hh
structure LQ(w0 w:World)(l0:List vC)(l1:List pO)(W:List dP)(R R2:List aV)(rt cs tw tr kg ps:List Int)(pl:List S64)(PL:List qI)(fr jH limit many:Int)(b8 b11 b12 b13:Nat)(A0 A1 A2 A3 A4 A5 A6 A7 Y0 Y1 Z0 Z1 V0 V1 T1 Pp:Option Addr)(c0 c1 c2 c3 c4 c5 c6 c7 y0 y1 z0 z1 v0 v1 t1 pp:Nat):Prop where
 below:Below w0.heap.size w0 w
 bx:aR w w0.heap.size [.slice A0 l0.length c0,.slice A1 l1.length c1,.slice A2 rt.length c2,.slice A3 cs.length c3,.slice A4 tw.length c4,.slice A5 tr.length c5,.slice A6 pl.length c6,.slice A7 ps.length c7,.int .i64 fr,.int .i64 jH,.int .i64 limit,.int .i64 many] 69
 m8:aR w b8 [.slice A4 tw.length c4,.slice T1 kg.length t1] 66
 m11:aR w b11 [.slice Y0 W.length y0,.slice Y1 R.length y1] 78
 m12:aR w b12 [.slice Z0 W.length z0,.slice Z1 R2.length z1] 78
 m13:aR w b13 [.slice V0 rt.length v0,.slice V1 cs.length v1] 80
 i11:IsMap w Y0 y0 W Y1 y1 R
 i12:IsMap w Z0 z0 W Z1 z1 R2
 kr:Kd.C (Kd.int .i64) w V0 rt.length rt
 kc:Kd.C (Kd.int .i64) w V1 cs.length cs
 kw:Kd.C (Kd.int .i64) w A4 tw.length tw
 kt:Kd.C (Kd.int .i64) w A5 tr.length tr
 ku:Kd.C (Kd.int .i64) w T1 kg.length kg
 ks:Kd.C (Kd.int .i64) w A7 ps.length ps
 kp:Kd.C PW w Pp PL.length PL
theorem LQ.later{w0 w:World}{l0:List vC}{l1:List pO}{W:List dP}{R R2:List aV}{rt cs tw tr kg ps:List Int}{pl:List S64}{PL:List qI}{fr jH limit many:Int}{b8 b11 b12 b13:Nat}{A0 A1 A2 A3 A4 A5 A6 A7 Y0 Y1 Z0 Z1 V0 V1 T1 Pp:Option Addr}{c0 c1 c2 c3 c4 c5 c6 c7 y0 y1 z0 z1 v0 v1 t1 pp:Nat}{w':World}(h:LQ w0 w l0 l1 W R R2 rt cs tw tr kg ps pl PL fr jH limit many b8 b11 b12 b13 A0 A1 A2 A3 A4 A5 A6 A7 Y0 Y1 Z0 Z1 V0 V1 T1 Pp c0 c1 c2 c3 c4 c5 c6 c7 y0 y1 z0 z1 v0 v1 t1 pp)(hb:Below w.heap.size w w'):LQ w0 w' l0 l1 W R R2 rt cs tw tr kg ps pl PL fr jH limit many b8 b11 b12 b13 A0 A1 A2 A3 A4 A5 A6 A7 Y0 Y1 Z0 Z1 V0 V1 T1 Pp c0 c1 c2 c3 c4 c5 c6 c7 y0 y1 z0 z1 v0 v1 t1 pp:=
 ⟨h.below.trans (hb.mono h.below.size),h.bx.below hb,h.m8.below hb,h.m11.below hb,h.m12.below hb,h.m13.below hb,h.i11.below hb,h.i12.below hb,Kd.av h.kr hb,Kd.av h.kc hb,Kd.av h.kw hb,Kd.av h.kt hb,Kd.av h.ku hb,Kd.av h.ks hb,Kd.av h.kp hb⟩
theorem abn{w0 w:World}{l0:List vC}{l1:List pO}{W:List dP}{R R2:List aV}{rt cs tw tr kg ps:List Int}{pl:List S64}{PL:List qI}{fr jH limit many:Int}{b8 b11 b12 b13:Nat}{A0 A1 A2 A3 A4 A5 A6 A7 Y0 Y1 Z0 Z1 V0 V1 T1 Pp:Option Addr}{c0 c1 c2 c3 c4 c5 c6 c7 y0 y1 z0 z1 v0 v1 t1 pp:Nat}(a:Act)(ha:a={tmps:=DF (a.tmps.getD 1 undef) (.pointer (some ⟨w0.heap.size,0,none⟩)) (a.tmps.getD 5 undef) (a.tmps.getD 7 undef) (.pointer (some ⟨b8,0,none⟩)) (.pointer (some ⟨b11,0,none⟩)) (.pointer (some ⟨b12,0,none⟩)) (.pointer (some ⟨b13,0,none⟩)) (.slice Pp PL.length pp) (λi=>a.tmps.getD i undef),defers:=[]})(L:LQ w0 w l0 l1 W R R2 rt cs tw tr kg ps pl PL fr jH limit many b8 b11 b12 b13 A0 A1 A2 A3 A4 A5 A6 A7 Y0 Y1 Z0 Z1 V0 V1 T1 Pp c0 c1 c2 c3 c4 c5 c6 c7 y0 y1 z0 z1 v0 v1 t1 pp)(hpl:PL.length<1000000)(hs:sO PL)(hpr:nT W R2 PL limit many=nT W R PL limit many):Code.wp Tryz.prog (jK 25) (lL w0) a w:=by
 obtain⟨b,mK⟩:∃b,nT W R PL limit many=b:=⟨_,rfl⟩
 have HT1:=aa.mk mK
 have HT2:=aa.mk (hpr.trans mK)
 have HL:=aa.mk L
 have HS:=aa.mk hs
 clear hpr mK L hs
 obtain⟨u,hu⟩:∃u:Nat->Value,a={tmps:=DF (u 1) (.pointer (some ⟨w0.heap.size,0,none⟩)) (u 5) (u 7) (.pointer (some ⟨b8,0,none⟩)) (.pointer (some ⟨b11,0,none⟩)) (.pointer (some ⟨b12,0,none⟩)) (.pointer (some ⟨b13,0,none⟩)) (.slice Pp PL.length pp) u,defers:=[]}:=⟨λi=>a.tmps.getD i undef,ha⟩
 clear ha
 subst hu
 unfold DF
 refine dR 25 (by kernel_rfl) (λK hK=>?_)
 unfold jK
 conv=>arg 2;whnf
 unfold lL
 refine dB (n:=19) (S:=λw'=>w'.cell? ⟨b11,0,none⟩=some (.slice Y0 W.length y0)/\w'.cell? ⟨b11,1,none⟩=some (.slice Y1 R.length y1)/\w'.cell? ⟨w0.heap.size,10,none⟩=some (.int .i64 limit)/\w'.cell? ⟨w0.heap.size,11,none⟩=some (.int .i64 many)/\w'.cell? ⟨b12,0,none⟩=some (.slice Z0 W.length z0)/\w'.cell? ⟨b12,1,none⟩=some (.slice Z1 R2.length z1)) (ds:=[13,16]) #[O,O,O,O,O,O,O,O,O,O,O,O,O,O,O,O,O,O,O] (by kernel_rfl) rfl rfl ⟨(by simpa using (HL.out).m11.cell 0),(by simpa using (HL.out).m11.cell 1),(by simpa using (HL.out).bx.cell 10),(by simpa using (HL.out).bx.cell 11),(by simpa using (HL.out).m12.cell 0),(by simpa using (HL.out).m12.cell 1)⟩ (λhHeld=>?_);refine bu lg.aaX lg.Zo (λak bN=>?_)
 have Ld:=aa.mk (HL.out.later (aM (Below.refl _ _)))
 clear HL
 generalize w.drew=wd at Ld hHeld ⊢
 refine dG 0 397 #[I,O,O,O,O,O,O,O,O,O,O,O,O,O,O,O,O,O,O] ak bN hHeld (hy:=by(rintro w' ⟨s0,s1,s2,s3,s4,s5⟩;go_simp;with_reducible rfl)) (h:=?_)
 refine aZ 1 398 #[I,I,O,O,O,O,O,O,O,O,O,O,O,O,O,O,O,O,O] ak (h:=?_)
 refine aZ 2 399 #[I,I,I,O,O,O,O,O,O,O,O,O,O,O,O,O,O,O,O] ak (h:=?_)
 refine dG 3 400 #[I,I,I,I,O,O,O,O,O,O,O,O,O,O,O,O,O,O,O] ak bN hHeld (hy:=by(rintro w' ⟨s0,s1,s2,s3,s4,s5⟩;go_simp;with_reducible rfl)) (h:=?_)
 refine aZ 4 401 #[I,I,I,I,I,O,O,O,O,O,O,O,O,O,O,O,O,O,O] ak (h:=?_)
 refine dG 5 402 #[I,I,I,I,I,I,O,O,O,O,O,O,O,O,O,O,O,O,O] ak bN hHeld (hy:=by(rintro w' ⟨s0,s1,s2,s3,s4,s5⟩;go_simp;with_reducible rfl)) (h:=?_)
 refine dG 7 404 #[I,I,I,I,I,I,O,I,O,O,O,O,O,O,O,O,O,O,O] ak bN hHeld (hy:=by(rintro w' ⟨s0,s1,s2,s3,s4,s5⟩;go_simp;with_reducible rfl)) (h:=?_)
 refine aZ 8 405 #[I,I,I,I,I,I,O,I,I,O,O,O,O,O,O,O,O,O,O] ak (h:=?_)
 refine aZ 9 406 #[I,I,I,I,I,I,O,I,I,I,O,O,O,O,O,O,O,O,O] ak (h:=?_)
 refine dG 10 407 #[I,I,I,I,I,I,O,I,I,I,I,O,O,O,O,O,O,O,O] ak bN hHeld (hy:=by(rintro w' ⟨s0,s1,s2,s3,s4,s5⟩;go_simp;with_reducible rfl)) (h:=?_)
 refine aZ 11 408 #[I,I,I,I,I,I,O,I,I,I,I,I,O,O,O,O,O,O,O] ak (h:=?_)
 refine dG 12 409 #[I,I,I,I,I,I,O,I,I,I,I,I,I,O,O,O,O,O,O] ak bN hHeld (hy:=by(rintro w' ⟨s0,s1,s2,s3,s4,s5⟩;go_simp;with_reducible rfl)) (h:=?_)
 refine dO (i:=6) (N:=some 403) #[I,I,I,I,I,I,I,I,I,I,I,I,I,O,O,O,O,O,O] rfl rfl (aI ak.out (by kernel_rfl)) (by decide) (λK hK=>?_)
 refine bW Tryz.func34 (by kernel_rfl) rfl #[.agg #[.slice Y0 W.length y0,.slice Y1 R.length y1],.slice Pp PL.length pp,.int .i64 limit,.int .i64 many] (by rfl) rfl rfl (by(try simp only[List.map_toArray,List.map_cons,List.map_nil]);rfl) ?_
 refine(tq Ld.out.i11 PL Ld.out.kp hpl HS.out limit many).mono ?_
 rintro e_ w_ ⟨rfl,hbx⟩
 rw[HT1.out]
 have e_:=Ld.out.later hbx
 refine⟨_,rfl,hK.out _ _ ⟨(by simpa using e_.m11.cell 0),(by simpa using e_.m11.cell 1),(by simpa using e_.bx.cell 10),(by simpa using e_.bx.cell 11),(by simpa using e_.m12.cell 0),(by simpa using e_.m12.cell 1)⟩ (λhHeld=>?_)⟩
 have Le:=aa.mk (Ld.out.later hbx)
 clear hK K hbx Ld
 refine iY ?_
 refine dE (i:=13) (N:=some 410) #[I,I,I,I,I,I,I,I,I,I,I,I,I,I,O,O,O,O,O] rfl rfl (aI ak.out (by kernel_rfl)) (by decide) (λK hK=>?_)
 refine bW Tryz.func34 (by kernel_rfl) rfl #[.agg #[.slice Z0 W.length z0,.slice Z1 R2.length z1],.slice Pp PL.length pp,.int .i64 limit,.int .i64 many] (by rfl) rfl rfl (by(try simp only[List.map_toArray,List.map_cons,List.map_nil]);rfl) ?_
 refine(tq Le.out.i12 PL Le.out.kp hpl HS.out limit many).mono ?_
 rintro e_ w_ ⟨rfl,hbx⟩
 rw[HT2.out]
 refine⟨_,rfl,hK.out _ _ ?_⟩
 have Lf:=aa.mk (Le.out.later hbx)
 clear hK K hbx Le
 refine iY ?_
 refine aZ 14 411 #[I,I,I,I,I,I,I,I,I,I,I,I,I,I,I,O,O,O,O] ak (h:=?_)
 refine aZ 15 412 #[I,I,I,I,I,I,I,I,I,I,I,I,I,I,I,I,O,O,O] ak (h:=?_)
 refine dE (i:=16) (N:=some 413) #[I,I,I,I,I,I,I,I,I,I,I,I,I,I,I,I,I,O,O] rfl rfl (aI ak.out (by kernel_rfl)) (by decide) (λK hK=>?_)
 refine bW Tryz.func7 (by kernel_rfl) rfl #[] (by rfl) rfl rfl (by simp) ?_
 refine(jI _).mono ?_
 rintro e_ w_ ⟨rfl,hbx⟩
 refine⟨_,rfl,hK.out _ _ ?_⟩
 have L7:=aa.mk (Lf.out.later hbx)
 clear hK K hbx Lf
 refine iY ?_
 refine aZ 17 414 #[I,I,I,I,I,I,I,I,I,I,I,I,I,I,I,I,I,I,O] ak (h:=?_)
 refine aZ 18 4 #[I,I,I,I,I,I,I,I,I,I,I,I,I,I,I,I,I,I,I] ak (h:=?_)
 refine dK (bG ak.out (by kernel_rfl)) ?_
 refine hK _ _ ?_
 unfold jK lL
 conv=>arg 2;whnf
 go_wp2_with fail
 go_ret
 exact⟨rfl,L7.out.below⟩
theorem Oc(W:List dP)(R:List aV)(limit:Int):(j3 W R limit).1.length<=8:=by
 unfold j3
 by_cases hc:bD W R=0
 .obtain⟨_,hN,_,_,_,_⟩:=mD hc
  rw[if_pos hc]
  split
  .exact Nat.le_trans (zw W R limit W.length) hN
  .exact Nat.zero_le _
 .rw[if_neg hc]
  exact Nat.zero_le _
theorem abo{w0 w:World}{l0:List vC}{l1:List pO}{W:List dP}{R R2:List aV}{rt cs tw tr kg ps:List Int}{pl:List S64}{PL:List qI}{fr jH limit many:Int}{b8 b11 b12 b13:Nat}{A0 A1 A2 A3 A4 A5 A6 A7 Y0 Y1 Z0 Z1 V0 V1 T1 Pp:Option Addr}{c0 c1 c2 c3 c4 c5 c6 c7 y0 y1 z0 z1 v0 v1 t1 pp:Nat}(a:Act)(ha:a={tmps:=DF (a.tmps.getD 1 undef) (.pointer (some ⟨w0.heap.size,0,none⟩)) (a.tmps.getD 5 undef) (a.tmps.getD 7 undef) (.pointer (some ⟨b8,0,none⟩)) (.pointer (some ⟨b11,0,none⟩)) (.pointer (some ⟨b12,0,none⟩)) (.pointer (some ⟨b13,0,none⟩)) (.slice Pp PL.length pp) (λi=>a.tmps.getD i undef),defers:=[]})(L:LQ w0 w l0 l1 W R R2 rt cs tw tr kg ps pl PL fr jH limit many b8 b11 b12 b13 A0 A1 A2 A3 A4 A5 A6 A7 Y0 Y1 Z0 Z1 V0 V1 T1 Pp c0 c1 c2 c3 c4 c5 c6 c7 y0 y1 z0 z1 v0 v1 t1 pp)(hpl:PL.length<1000000)(hs:sO PL)(hpr:nT W R2 PL limit many=nT W R PL limit many)
  (hfa:dX W R2 PL limit=dX W R PL limit) (hre:j3 W R2 limit=j3 W R limit) (hfe:tJ W R2 limit=tJ W R limit) (hle:kU W R2 many=kU W R many):Code.wp Tryz.prog (jK 16) (lL w0) a w:=by
 have HPR:=aa.mk hpr
 have HS:=aa.mk hs
 obtain⟨k1,k2,k3⟩:=Cc W R PL limit
 have k4:=Oc W R limit
 obtain⟨⟨q1,q2,q3,e5⟩,hf⟩:∃x,dX W R PL limit=x:=⟨_,rfl⟩
 obtain⟨⟨q4,e6⟩,hr⟩:∃x,j3 W R limit=x:=⟨_,rfl⟩
 obtain⟨⟨n7,e7⟩,hw⟩:∃x,tJ W R limit=x:=⟨_,rfl⟩
 obtain⟨⟨n8,e8⟩,hl⟩:∃x,kU W R many=x:=⟨_,rfl⟩
 rw[hf] at hfa k1 k2 k3
 rw[hr] at hre k4
 rw[hw] at hfe
 rw[hl] at hle
 have qN:=aa.mk (show q1.length<=1000 from Nat.le_trans k1 (by decide))
 have IJ:=aa.mk (show q2.length<=1000 from Nat.le_trans k2 (by decide))
 have ZX:=aa.mk (show q3.length<=1000 from Nat.le_trans k3 (by decide))
 have HK4:=aa.mk (show q4.length<=1000 from Nat.le_trans k4 (by decide))
 have HF1:=aa.mk hf
 have DV:=aa.mk hfa
 have HR1:=aa.mk hr
 have HR2:=aa.mk hre
 have HW1:=aa.mk hw
 have HW2:=aa.mk hfe
 have HL1:=aa.mk hl
 have HL2:=aa.mk hle
 have L0:=aa.mk L
 clear hpr hs k1 k2 k3 k4 hf hr hw hl hfa hre hfe hle L
 obtain⟨u,hu⟩:∃u:Nat->Value,a={tmps:=DF (u 1) (.pointer (some ⟨w0.heap.size,0,none⟩)) (u 5) (u 7) (.pointer (some ⟨b8,0,none⟩)) (.pointer (some ⟨b11,0,none⟩)) (.pointer (some ⟨b12,0,none⟩)) (.pointer (some ⟨b13,0,none⟩)) (.slice Pp PL.length pp) u,defers:=[]}:=⟨λi=>a.tmps.getD i undef,ha⟩
 clear ha
 subst hu
 unfold DF
 refine dR 16 (by kernel_rfl) (λK16 aoO=>?_)
 unfold jK
 conv=>arg 2;whnf
 unfold lL
 have hm0:=L0.out.m11.cell 0
 have hm1:=L0.out.m11.cell 1
 have uf:=L0.out.bx.cell 10
 simp only[eP,eO] at hm0 hm1 uf
 go_wp2_with fail
 refine(sQ L0.out.i11 PL L0.out.kp hpl HS.out limit).mono ?_
 rintro e w1 ⟨⟨Tq,v2_,v3_,rfl,xM,hR2,UR⟩,hbx⟩
 rw[HF1.out] at xM hR2 UR ⊢
 dsimp only at xM hR2 UR ⊢
 obtain⟨A1_,c1_,rfl,ab9,acy⟩:=Kd.cB xM
 obtain⟨A2_,c2_,rfl,ab8,acx⟩:=Kd.cB hR2
 obtain⟨A3_,c3_,rfl,ab7,acw⟩:=Kd.cB UR
 have L1:=aa.mk (L0.out.later hbx)
 have C1:=aa.mk acy
 have D1:=aa.mk ab9
 have C2:=aa.mk acx
 have D2:=aa.mk ab8
 have C3:=aa.mk acw
 have D3:=aa.mk ab7
 clear hbx L0 hm0 hm1 uf xM acy ab9 hR2 acx ab8 UR acw ab7
 go_wp2_with fail
 refine dR 17 (by kernel_rfl) (λK17 aoN=>?_)
 unfold jK
 conv=>arg 2;whnf
 unfold lL
 have hm0:=L1.out.m12.cell 0
 have hm1:=L1.out.m12.cell 1
 have uf:=L1.out.bx.cell 10
 simp only[eP,eO] at hm0 hm1 uf
 go_wp2_with fail
 refine(sQ L1.out.i12 PL L1.out.kp hpl HS.out limit).mono ?_
 rintro e w2 ⟨⟨Tq,v2_,v3_,rfl,xM,hR2,UR⟩,hbx⟩
 rw[DV.out] at xM hR2 UR ⊢
 dsimp only at xM hR2 UR ⊢
 obtain⟨A4_,c4_,rfl,ab6,acv⟩:=Kd.cB xM
 obtain⟨A5_,c5_,rfl,ab5,acu⟩:=Kd.cB hR2
 obtain⟨A6_,c6_,rfl,ab4,acs⟩:=Kd.cB UR
 have L2:=aa.mk (L1.out.later hbx)
 replace C1:=aa.mk (Kd.av C1.out hbx)
 replace C2:=aa.mk (Kd.av C2.out hbx)
 replace C3:=aa.mk (Kd.av C3.out hbx)
 have C4:=aa.mk acv
 have D4:=aa.mk ab6
 have C5:=aa.mk acu
 have D5:=aa.mk ab5
 have C6:=aa.mk acs
 have D6:=aa.mk ab4
 clear hbx L1 hm0 hm1 uf xM acv ab6 hR2 acu ab5 UR acs ab4
 go_wp2_with fail
 refine dR 18 (by kernel_rfl) (λK18 aoM=>?_)
 unfold jK
 conv=>arg 2;whnf
 unfold lL
 have hm0:=L2.out.m11.cell 0
 have hm1:=L2.out.m11.cell 1
 have uf:=L2.out.bx.cell 10
 simp only[eP,eO] at hm0 hm1 uf
 go_wp2_with fail
 refine(zG limit L2.out.i11).mono ?_
 rintro e w3 ⟨⟨Tq,rfl,xM⟩,hbx⟩
 rw[HR1.out] at xM ⊢
 dsimp only at xM ⊢
 obtain⟨A7_,c7_,rfl,ab3,acr⟩:=Kd.cB xM
 have L3:=aa.mk (L2.out.later hbx)
 replace C1:=aa.mk (Kd.av C1.out hbx)
 replace C2:=aa.mk (Kd.av C2.out hbx)
 replace C3:=aa.mk (Kd.av C3.out hbx)
 replace C4:=aa.mk (Kd.av C4.out hbx)
 replace C5:=aa.mk (Kd.av C5.out hbx)
 replace C6:=aa.mk (Kd.av C6.out hbx)
 have C7:=aa.mk acr
 have D7:=aa.mk ab3
 clear hbx L2 hm0 hm1 uf xM acr ab3
 go_wp2_with fail
 refine dR 19 (by kernel_rfl) (λK19 aoL=>?_)
 unfold jK
 conv=>arg 2;whnf
 unfold lL
 have hm0:=L3.out.m12.cell 0
 have hm1:=L3.out.m12.cell 1
 have uf:=L3.out.bx.cell 10
 simp only[eP,eO] at hm0 hm1 uf
 go_wp2_with fail
 refine(zG limit L3.out.i12).mono ?_
 rintro e w4 ⟨⟨Tq,rfl,xM⟩,hbx⟩
 rw[HR2.out] at xM ⊢
 dsimp only at xM ⊢
 obtain⟨A8_,c8_,rfl,ab2,acp⟩:=Kd.cB xM
 have L4:=aa.mk (L3.out.later hbx)
 replace C1:=aa.mk (Kd.av C1.out hbx)
 replace C2:=aa.mk (Kd.av C2.out hbx)
 replace C3:=aa.mk (Kd.av C3.out hbx)
 replace C4:=aa.mk (Kd.av C4.out hbx)
 replace C5:=aa.mk (Kd.av C5.out hbx)
 replace C6:=aa.mk (Kd.av C6.out hbx)
 replace C7:=aa.mk (Kd.av C7.out hbx)
 have C8:=aa.mk acp
 have D8:=aa.mk ab2
 clear hbx L3 hm0 hm1 uf xM acp ab2
 go_wp2_with fail
 refine dR 20 (by kernel_rfl) (λK20 aoK=>?_)
 unfold jK
 conv=>arg 2;whnf
 unfold lL
 have hm0:=L4.out.m11.cell 0
 have hm1:=L4.out.m11.cell 1
 have uf:=L4.out.bx.cell 10
 simp only[eP,eO] at hm0 hm1 uf
 go_wp2_with fail
 refine(yx limit L4.out.i11).mono ?_
 rintro e w5 ⟨rfl,hbx⟩
 rw[HW1.out]
 have L5:=aa.mk (L4.out.later hbx)
 replace C1:=aa.mk (Kd.av C1.out hbx)
 replace C2:=aa.mk (Kd.av C2.out hbx)
 replace C3:=aa.mk (Kd.av C3.out hbx)
 replace C4:=aa.mk (Kd.av C4.out hbx)
 replace C5:=aa.mk (Kd.av C5.out hbx)
 replace C6:=aa.mk (Kd.av C6.out hbx)
 replace C7:=aa.mk (Kd.av C7.out hbx)
 replace C8:=aa.mk (Kd.av C8.out hbx)
 clear hbx L4 hm0 hm1 uf
 go_wp2_with fail
 refine dR 21 (by kernel_rfl) (λK21 aoJ=>?_)
 unfold jK
 conv=>arg 2;whnf
 unfold lL
 have hm0:=L5.out.m12.cell 0
 have hm1:=L5.out.m12.cell 1
 have uf:=L5.out.bx.cell 10
 simp only[eP,eO] at hm0 hm1 uf
 go_wp2_with fail
 refine(yx limit L5.out.i12).mono ?_
 rintro e w6 ⟨rfl,hbx⟩
 rw[HW2.out]
 have L6:=aa.mk (L5.out.later hbx)
 replace C1:=aa.mk (Kd.av C1.out hbx)
 replace C2:=aa.mk (Kd.av C2.out hbx)
 replace C3:=aa.mk (Kd.av C3.out hbx)
 replace C4:=aa.mk (Kd.av C4.out hbx)
 replace C5:=aa.mk (Kd.av C5.out hbx)
 replace C6:=aa.mk (Kd.av C6.out hbx)
 replace C7:=aa.mk (Kd.av C7.out hbx)
 replace C8:=aa.mk (Kd.av C8.out hbx)
 clear hbx L5 hm0 hm1 uf
 go_wp2_with fail
 refine dR 22 (by kernel_rfl) (λK22 aoI=>?_)
 unfold jK
 conv=>arg 2;whnf
 unfold lL
 have hm0:=L6.out.m11.cell 0
 have hm1:=L6.out.m11.cell 1
 have Q5:=L6.out.bx.cell 11
 simp only[eP,eO] at hm0 hm1 Q5
 go_wp2_with fail
 refine(zH many L6.out.i11).mono ?_
 rintro e w7 ⟨rfl,hbx⟩
 rw[HL1.out]
 have L7:=aa.mk (L6.out.later hbx)
 replace C1:=aa.mk (Kd.av C1.out hbx)
 replace C2:=aa.mk (Kd.av C2.out hbx)
 replace C3:=aa.mk (Kd.av C3.out hbx)
 replace C4:=aa.mk (Kd.av C4.out hbx)
 replace C5:=aa.mk (Kd.av C5.out hbx)
 replace C6:=aa.mk (Kd.av C6.out hbx)
 replace C7:=aa.mk (Kd.av C7.out hbx)
 replace C8:=aa.mk (Kd.av C8.out hbx)
 clear hbx L6 hm0 hm1 Q5
 go_wp2_with fail
 refine dR 23 (by kernel_rfl) (λK23 aoH=>?_)
 unfold jK
 conv=>arg 2;whnf
 unfold lL
 have hm0:=L7.out.m12.cell 0
 have hm1:=L7.out.m12.cell 1
 have Q5:=L7.out.bx.cell 11
 simp only[eP,eO] at hm0 hm1 Q5
 go_wp2_with fail
 refine(zH many L7.out.i12).mono ?_
 rintro e w8 ⟨rfl,hbx⟩
 rw[HL2.out]
 have L8:=aa.mk (L7.out.later hbx)
 replace C1:=aa.mk (Kd.av C1.out hbx)
 replace C2:=aa.mk (Kd.av C2.out hbx)
 replace C3:=aa.mk (Kd.av C3.out hbx)
 replace C4:=aa.mk (Kd.av C4.out hbx)
 replace C5:=aa.mk (Kd.av C5.out hbx)
 replace C6:=aa.mk (Kd.av C6.out hbx)
 replace C7:=aa.mk (Kd.av C7.out hbx)
 replace C8:=aa.mk (Kd.av C8.out hbx)
 clear hbx L7 hm0 hm1 Q5
 go_wp2_with fail
 refine dR 24 (by kernel_rfl) (λK24 aoG=>?_)
 unfold jK
 conv=>arg 2;whnf
 unfold lL
 go_wp2_with fail
 refine(bn.calls (q1.length+1) _ _ q1 _ _ q1 true _ C1.out D1.out C4.out D4.out (uG q1 qN.out)).mono ?_
 rintro e w9 ⟨rfl,hbx⟩
 have L9:=aa.mk (L8.out.later hbx.below)
 replace C2:=aa.mk (Kd.av C2.out hbx.below)
 replace C5:=aa.mk (Kd.av C5.out hbx.below)
 replace C3:=aa.mk (Kd.av C3.out hbx.below)
 replace C6:=aa.mk (Kd.av C6.out hbx.below)
 replace C7:=aa.mk (Kd.av C7.out hbx.below)
 replace C8:=aa.mk (Kd.av C8.out hbx.below)
 clear hbx L8 C1 C4
 go_wp2_with fail
 refine(bn.calls (q2.length+1) _ _ q2 _ _ q2 true _ C2.out D2.out C5.out D5.out (uG q2 IJ.out)).mono ?_
 rintro e w10 ⟨rfl,hbx⟩
 have L10:=aa.mk (L9.out.later hbx.below)
 replace C3:=aa.mk (Kd.av C3.out hbx.below)
 replace C6:=aa.mk (Kd.av C6.out hbx.below)
 replace C7:=aa.mk (Kd.av C7.out hbx.below)
 replace C8:=aa.mk (Kd.av C8.out hbx.below)
 clear hbx L9 C2 C5
 go_wp2_with fail
 refine(bn.calls (q3.length+1) _ _ q3 _ _ q3 true _ C3.out D3.out C6.out D6.out (uG q3 ZX.out)).mono ?_
 rintro e w11 ⟨rfl,hbx⟩
 have L11:=aa.mk (L10.out.later hbx.below)
 replace C7:=aa.mk (Kd.av C7.out hbx.below)
 replace C8:=aa.mk (Kd.av C8.out hbx.below)
 clear hbx L10 C3 C6
 go_wp2_with fail
 refine(bn.calls (q4.length+1) _ _ q4 _ _ q4 true _ C7.out D7.out C8.out D8.out (uG q4 HK4.out)).mono ?_
 rintro e w12 ⟨rfl,hbx⟩
 have L12:=aa.mk (L11.out.later hbx.below)
 clear hbx L11 C7 C8
 go_wp2_with fail
 refine abn _ ?_ L12.out hpl HS.out HPR.out
 rfl
end Go.Proofs.YtkjoilgpmngndaaGreat.Wk
