/-
  THE FUNCTIONS of the cut, as the abstract machine runs them (printed by program); Sys: for each of them, what its text computes is its contract.
-/
import Derived.Test.YtkaaomojgmbgdaaGreatDoorAbs4
set_option linter.unusedSimpArgs false
set_option linter.unusedVariables false
set_option linter.unusedSectionVars false
set_option maxRecDepth 100000
section
namespace Go.Abs
@[go_sem] def gf(n:Nat):Option (Nat×Bool):=some (n,false)
@[go_sem] def gt(n:Nat):Option (Nat×Bool):=some (n,true)
instance:Coe I (Option (Nat×Bool)×I):=⟨fun i=>(none,i)⟩
instance:Coe Int X:=⟨fun n=>.c (.d (.int .i64 n))⟩
instance:Coe Bool X:=⟨fun b=>.c (.d (.bool b))⟩
instance:Coe Int AV:=⟨fun n=>.d (.int .i64 n)⟩
def jt:Nat:=9
def pS:Nat:=3
def rA:Nat:=4
def zwp:FuncId:=5
def Lg:FuncId:=10
def Gb:FuncId:=11
def KS:FuncId:=12
def BI:FuncId:=14
def V3:FuncId:=15
def Lk:FuncId:=16
def zvF:FuncId:=18
def KR:FuncId:=19
def HC:FuncId:=20
def zkc:FuncId:=21
def rF:FuncId:=22
def GB:FuncId:=23
def Ld:FuncId:=24
def Bt:FuncId:=25
def V7:FuncId:=26
def zZS:FuncId:=27
def BH:FuncId:=28
def KU:FuncId:=31
def Um:FuncId:=33
def V5:FuncId:=34
def Gx:FuncId:=42
def Cw:FuncId:=43
def tE:FuncId:=44
def iY:FuncId:=45
def FO:FuncId:=46
def me:FuncId:=47
def DY:FuncId:=48
def Hf:FuncId:=49
def Pg:FuncId:=50
def zZL:FuncId:=51
def strconv_Itoa:FuncId:=52
def Ll:FuncId:=53
def K5:FuncId:=54
def strings_Join:FuncId:=55
def zXG:FuncId:=56
def HI:FuncId:=57
def VX:FuncId:=58
def VU:FuncId:=59
def KT:FuncId:=60
def Hw:FuncId:=61
def yr:FuncId:=62
def Hb:FuncId:=63
def NP:FuncId:=64
def V8:FuncId:=65
def VK:FuncId:=66
def yv:FuncId:=67
def KW:FuncId:=68
def Hp:FuncId:=69
def Ho:FuncId:=70
def H2:FuncId:=71
def He:FuncId:=72
def tN:FuncId:=73
def KK:FuncId:=74
def x3:FuncId:=75
def CF:FuncId:=76
def HK:FuncId:=77
def zXC:FuncId:=78
def zZf:FuncId:=79
def VV:FuncId:=80
def Pk:FuncId:=81
def OD:FuncId:=82
def TR:FuncId:=83
def F8:FuncId:=84
def K4:FuncId:=85
def Bq:FuncId:=86
def FZ:FuncId:=87
def KZ:FuncId:=92
def zY6:FuncId:=93
def UH:FuncId:=94
def Ia:FuncId:=96
def VI:FuncId:=97
def zvf:FuncId:=98
def zxi:FuncId:=99
def AQ:FuncId:=100
def Em:FuncId:=103
def F1:FuncId:=109
def UJ:FuncId:=110
def Lt:FuncId:=112
def zXB:FuncId:=116
def Lv:FuncId:=117
def Ea:FuncId:=118
def Eb:FuncId:=119
def Kz:FuncId:=120
def D6:FuncId:=121
def Vy:FuncId:=122
def VS:FuncId:=123
def VY:FuncId:=124
def VT:FuncId:=125
def Kr:FuncId:=126
def Lj:FuncId:=127
def Lh:FuncId:=128
def Li:FuncId:=129
def AF:FuncId:=130
def D0:FuncId:=131
def Ky:FuncId:=132
def Hq:FuncId:=133
def vo:FuncId:=134
def KG:FuncId:=135
def Lo:FuncId:=136
def Lq:FuncId:=137
def Lu:FuncId:=138
def Bu:FuncId:=139
def CG:FuncId:=140
def uX:FuncId:=141
def xY:FuncId:=142
def Bs:FuncId:=143
def zy2:FuncId:=144
def Wa:FuncId:=145
def zxv:FuncId:=146
def Wb:FuncId:=147
def UX:FuncId:=148
def H8:FuncId:=149
def zxu:FuncId:=150
def Pe:FuncId:=151
def OE:FuncId:=152
def La:FuncId:=153
def strconv_Atoi:FuncId:=154
def F6:FuncId:=155
def zZi:FuncId:=156
def VJ:FuncId:=157
def NZ:FuncId:=159
def VR:FuncId:=160
def DR:FuncId:=161
def Ht:FuncId:=162
def Lm:FuncId:=165
def zVq:FuncId:=166
def zZg:FuncId:=170
def zXA:FuncId:=171
def zjj:FuncId:=172
def zVp:FuncId:=173
def zVr:FuncId:=174
def zXD:FuncId:=175
def zwv:FuncId:=176
def KA:FuncId:=177
def Lf:FuncId:=178
def KB:FuncId:=179
def F3:FuncId:=180
def HD:FuncId:=181
def Hd:FuncId:=182
def KH:FuncId:=183
def KP:FuncId:=184
def F5:FuncId:=185
def HF:FuncId:=186
def KI:FuncId:=187
def Ga:FuncId:=188
def Cy:FuncId:=189
def yw:FuncId:=190
def D4:FuncId:=191
def Lp:FuncId:=192
def CD:FuncId:=193
def KV:FuncId:=194
def HG:FuncId:=195
def Hx:FuncId:=196
def Oy:FuncId:=197
def yxX:FuncId:=200
def Hz:FuncId:=201
def Hy:FuncId:=202
def Ko:FuncId:=203
def Ed:FuncId:=204
def Ui:FuncId:=218
def zXy:FuncId:=219
def zwu:FuncId:=220
def zXz:FuncId:=221
def TQ:FuncId:=222
def Lr:FuncId:=223
def Ls:FuncId:=224
def CC:FuncId:=225
def D5:FuncId:=226
def Le:FuncId:=227
def F4:FuncId:=228
def Hu:FuncId:=229
def KO:FuncId:=230
def SW:FuncId:=231
def G5:FuncId:=238
def KJ:FuncId:=239
def CE:FuncId:=240
def zZe:FuncId:=249
def zZc:FuncId:=250
def zZd:FuncId:=251
def zXx:FuncId:=252
def strconv_Quote:FuncId:=253
def LQ:FuncId:=269
def zve:FuncId:=270
def Pd:FuncId:=271
def UI:FuncId:=272
def zXw:FuncId:=282
def zkp:FuncId:=283
instance:Coe FuncId X:=⟨fun f=>.c (.d (.clo f []))⟩
open I (aad aeq aidx alloc app bin box bsl bslz build call callB fa fld idx isnil ld len lfrom max mget min mkf mkm mput mv nck sfrom sidx st sto)
open X (t)
open AC (block cond exit loop cD cm ret seq skip)
@[go_sem] def sr(l:List (Option (Nat×Bool)×I))(a:AC):AC:=.seq (.cD l) a
@[go_sem] def rr(l:List (Option (Nat×Bool)×I)):AC:=.seq (.cD l) .ret
@[go_sem] def ci(a:Nat)(x:AC):AC:=.cond (.t a) x .skip
@[go_sem] def bi(d:Nat)(o:BinOp)(a:Nat)(n:Int):I:=.bin d o (.t a) (.c (.d (.int .i64 n)))
@[go_sem] def mi(d:Nat)(n:Int):I:=.mv d (.c (.d (.int .i64 n)))
@[go_sem] def ka(d:Nat)(f:X)(a:Nat):I:=.call (some d) f [.t a]
@[go_sem] def kb(d:Nat)(f:X)(a b:Nat):I:=.call (some d) f [.t a,.t b]
@[go_sem] def kc(d:Nat)(f:X)(l:List X):I:=.call (some d) f l
@[go_sem] def kd(d:Nat)(f:X)(l:List X):I:=.callB (some d) f l
@[go_sem] def zoa:List AV:=[.d (.str []),.d (.str []),.d (.str []),.d (.str []),.d (.str []),.d (.str []),.d (.str []),.d (.str []),.d (.str []),.d (.str []),.d (.str []),.d (.str []),.d (.str [])]
@[go_sem] def wA:List AV:=[(0:Int),.d (.str []),(0:Int),.full [],.full []]
@[go_sem] def du:List AV:=[(0:Int),.d (.str []),(0:Int),.full []]
@[go_sem] def BE:List AV:=[.d (.str []),.full [],.d (.str [])]
@[go_sem] def xV:List AV:=[.full [],(0:Int),.d (.bool false)]
@[go_sem] def Hg:List AV:=[.d (.oB),.d (.str [])]
@[go_sem] def AP:List AV:=[.d (.str []),.full []]
@[go_sem] def nO:List AV:=[.d (.str []),(0:Int)]
@[go_sem] def kE:List AV:=[.full [],(0:Int)]
@[go_sem] def mt(d a:Nat):I:=.mv d (.t a)
@[go_sem] def bt(d:Nat)(o:BinOp)(a b:Nat):I:=.bin d o (.t a) (.t b)
@[go_sem] def bq(d:Nat)(o:BinOp)(a:Nat)(b:X):I:=.bin d o (.t a) b
@[go_sem] def lg(d n a:Nat):I:=.ld d true n (.t a)
@[go_sem] def lf(d n a:Nat):I:=.ld d false n (.t a)
@[go_sem] def ft(d n a:Nat):I:=.fa d n (.t a)
@[go_sem] def ix(d n a b:Nat):I:=.idx d n (.t a) (.t b)
@[go_sem] def su(n a b:Nat):I:=.st n (.t a) (.t b)
@[go_sem] def ln(d a:Nat):I:=.len d false (.t a)
@[go_sem] def ls(d a:Nat):I:=.len d true (.t a)
@[go_sem] def eu(d a i:Nat):I:=.ext d (.t a) i
@[go_sem] def ap(d n m a b:Nat):I:=.app d n m (.t a) (.t b)
@[go_sem] def an(d a b:Nat):I:=.and d (.t a) (.t b)
@[go_sem] def ou(d a b:Nat):I:=.or d (.t a) (.t b)
@[go_sem] def nu(d a:Nat):I:=.not d (.t a)
@[go_sem] def cn(a:Nat)(x y:AC):AC:=.cond (.t a) x y
def zZ4:bL:=⟨42,sr [box 2 (t 0),box 3 (t 1),mv 4 false] (seq (sr [lg 9 3 2,ka 10 KR 9,nu 11 10,mt 12 11,(gf 12,lg 13 4 3),(gf 12,.bsl 14 4 [t 13]),(gf 12,.call (some 15) Lg [t 14]),(gf 12,nu 16 15),ou 17 12 16] (ci 17 (rr [kc 18 Gb [],mt 4 18]))) (sr [lg 20 3 2,lg 21 4 3,kb 22 Bt 20 21,mt 19 22,eu 23 19 0,eu 24 19 1,alloc 5 wA,su 5 5 23,mt 6 24] (sr [lg 26 3 2,lg 27 4 3,kb 28 V7 26 27,mt 25 28,eu 29 25 0,eu 30 25 1,alloc 7 wA,su 5 7 29,mt 8 30] (rr [lg 31 5 5,lg 32 5 7,kb 33 zZS 31 32,mt 34 33,(gt 34,mt 35 6),(gt 34,mt 36 8),(gt 34,bt 37 .eql 35 36),an 38 34 37,mt 39 38,(gt 39,.call (some 40) Gb []),an 41 39 40,mt 4 41])))),[.t 4]⟩
def T8:AC:=seq (sr [mt 4 3,mt 5 0,ln 6 5,bt 7 .lss 4 6] (cn 7 skip (exit 0))) (seq (block 1 (sr [mt 10 0,mt 11 3,ix 12 4 10 11,lg 13 4 12,ka 14 Gx 13,bi 15 .gtr 14 80] (ci 15 (rr [mv 2 false])))) (cD [mt 8 3,bi 9 .add 8 1,mt 3 9]))
def zVR:bL:=⟨16,sr [mv 2 false] (seq (sr [mi 3 0] (block 0 (loop T8))) (rr [mv 2 true])),[.t 2]⟩
def T7:AC:=seq (sr [mt 113 10,bi 114 .leq 113 1] (cn 114 skip (exit 0))) (seq (block 1 (sr [ft 117 0 1,lg 118 4 117,mt 119 10,bsl 120 1 [t 119],kb 121 BH 118 120,bi 122 .neq 121 0,mt 123 122,(gf 123,ft 124 0 8),(gf 123,lg 125 4 124),(gf 123,mt 126 10),(gf 123,.bsl 127 1 [t 126]),(gf 123,.call (some 128) BH [t 125,t 127]),(gf 123,mt 129 10),(gf 123,mt 130 10),(gf 123,bt 131 .mul 129 130),(gf 123,bq 132 .mul 131 (-1:Int)),(gf 123,bi 133 .add 132 1),(gf 123,bt 134 .neq 128 133),ou 135 123 134] (ci 135 (rr [mv 0 false])))) (cD [mt 115 10,bi 116 .add 115 1,mt 10 116]))
def zVO:bL:=⟨187,sr [mv 0 false] (sr [kc 15 Cw [],kc 16 iY [.c (.d (.str [120]))],kc 17 iY [.c (.d (.str [121]))],kc 18 tE [.c (.d (.int .i64 12)),t 16,t 17],kc 19 iY [.c (.d (.str [121]))],kc 20 iY [.c (.d (.str [120]))],kc 21 tE [.c (.d (.int .i64 12)),t 19,t 20],kc 22 tE [.c (.d (.int .i64 15)),t 18,t 21],kb 23 Bt 15 22,mt 14 23,eu 24 14 0,eu 25 14 1,alloc 1 wA,su 5 1 24,mt 2 25] (sr [kc 26 iY [.c (.d (.str [120]))],kc 27 FO [.c (.d (.str [102])),t 26],kc 28 me [.c (.d (.int .i64 1))],kc 29 tE [.c (.d (.int .i64 10)),t 27,t 28],kc 30 iY [.c (.d (.str [121]))],kc 31 FO [.c (.d (.str [102])),t 30],kc 32 me [.c (.d (.int .i64 2))],kc 33 tE [.c (.d (.int .i64 10)),t 31,t 32],kc 34 tE [.c (.d (.int .i64 15)),t 29,t 33],kc 35 iY [.c (.d (.str [120]))],kc 36 iY [.c (.d (.str [121]))],kc 37 tE [.c (.d (.int .i64 10)),t 35,t 36],kc 38 tE [.c (.d (.int .i64 15)),t 34,t 37],alloc 3 du,su 4 3 38] (seq (cm [kc 40 Cw [],lg 41 4 3,kb 42 Bt 40 41,mt 39 42,eu 43 39 0,eu 44 39 1,alloc 4 wA,su 5 4 43,mt 5 44]) (sr [kc 46 Cw [],kc 47 iY [.c (.d (.str [98]))],kb 48 Bt 46 47,mt 45 48,eu 49 45 0,eu 50 45 1,alloc 6 wA,su 5 6 49,mt 7 50] (sr [kc 52 Cw [],kc 53 me [.c (.d (.int .i64 2))],kc 54 iY [.c (.d (.str [120]))],kc 55 tE [.c (.d (.int .i64 8)),t 53,t 54],kc 56 me [.c (.d (.int .i64 4))],kc 57 tE [.c (.d (.int .i64 10)),t 55,t 56],kc 58 me [.c (.d (.int .i64 3))],kc 59 iY [.c (.d (.str [120]))],kc 60 tE [.c (.d (.int .i64 8)),t 58,t 59],kc 61 me [.c (.d (.int .i64 6))],kc 62 tE [.c (.d (.int .i64 10)),t 60,t 61],kc 63 tE [.c (.d (.int .i64 15)),t 57,t 62],kb 64 Bt 52 63,mt 51 64,eu 65 51 0,eu 66 51 1,alloc 8 wA,su 5 8 65,mt 9 66] (seq (sr [(none,mt 67 2),(none,bi 68 .neq 67 0),(none,mt 69 68),(gf 69,ft 70 4 1),(gf 69,lf 71 1 70),(gf 69,ln 72 71),(gf 69,bi 73 .neq 72 1),(none,ou 74 69 73),(none,mt 75 74),(gf 75,mt 76 5),(gf 75,bi 77 .neq 76 0),(none,ou 78 75 77),(none,mt 79 78),(gf 79,ft 80 4 4),(gf 79,lf 81 1 80),(gf 79,ln 82 81),(gf 79,bi 83 .neq 82 4),(none,ou 84 79 83),(none,mt 85 84),(gf 85,mt 86 7),(gf 85,bi 87 .neq 86 0),(none,ou 88 85 87),(none,mt 89 88),(gf 89,ft 90 4 6),(gf 89,lf 91 1 90),(gf 89,ln 92 91),(gf 89,bi 93 .neq 92 2),(none,ou 94 89 93),(none,mt 95 94),(gf 95,ft 96 4 6),(gf 95,lf 97 1 96),(gf 95,.idx 98 2 (t 97) (0:Int)),(gf 95,ft 99 1 98),(gf 95,lf 100 1 99),(gf 95,bq 101 .neq 100 (-1:Int)),(none,ou 102 95 101),(none,mt 103 102),(gf 103,mt 104 9),(gf 103,bi 105 .neq 104 0),(none,ou 106 103 105),(none,mt 107 106),(gf 107,ft 108 4 8),(gf 107,lf 109 1 108),(gf 107,ln 110 109),(gf 107,bi 111 .neq 110 1),(none,ou 112 107 111)] (ci 112 (rr [mv 0 false]))) (seq (sr [mv 10 (-1:Int)] (block 0 (loop T7))) (sr [lg 137 4 3,ka 138 KS 137,mt 136 138,eu 139 136 0,eu 140 136 1,alloc 11 du,su 4 11 139,mt 12 140] (sr [ft 141 4 6,lf 142 1 141,bsl 143 1 [.c (.d (.int .i64 0)),.c (.d (.int .i64 1))],kb 144 KU 142 143,mt 13 144] (rr [(none,.call (some 145) me [.c (.d (.int .i64 (-3)))]),(none,.call (some 146) iY [.c (.d (.str [120]))]),(none,.call (some 147) FO [.c (.d (.str [102])),t 146]),(none,.call (some 148) tE [.c (.d (.int .i64 6)),t 145,t 147]),(none,.call (some 149) BI [t 148]),(none,bq 150 .eql 149 (.c (.d (.str [43,40,45,51,44,102,40,120,41,41])))),(none,mt 151 150),(gt 151,mt 152 12),(gt 151,ln 153 152),(gt 151,bi 154 .eql 153 2),(none,an 155 151 154),(none,mt 156 155),(gt 156,lg 157 4 11),(gt 156,.call (some 158) DY [t 157]),(gt 156,ln 159 158),(gt 156,bi 160 .eql 159 0),(none,an 161 156 160),(none,mt 162 161),(gt 162,.call (some 163) Cw []),(gt 162,mt 164 12),(gt 162,.call (some 165) HC [t 163,t 164]),(gt 162,ln 166 165),(gt 162,bi 167 .eql 166 1),(none,an 168 162 167),(none,mt 169 168),(gt 169,mt 170 13),(gt 169,ln 171 170),(gt 169,bi 172 .eql 171 2),(none,an 173 169 172),(none,mt 174 173),(gt 174,mt 175 13),(gt 174,.idx 176 3 (t 175) (0:Int)),(gt 174,ft 177 2 176),(gt 174,lf 178 1 177),(none,an 179 174 178),(none,mt 180 179),(gt 180,mt 181 13),(gt 180,.idx 182 3 (t 181) (1:Int)),(gt 180,ft 183 2 182),(gt 180,lf 184 1 183),(gt 180,nu 185 184),(none,an 186 180 185),(none,mt 0 186)])))))))))),[.t 0]⟩
def zW3:bL:=⟨8,sr [box 1 (t 0),alloc 2 du,mv 3 (.c (.full []))] (seq (cm [lg 4 4 1,ka 5 Hf 4,lg 6 4 1,ka 7 DY 6,su 4 2 5,mt 3 7]) ret),[.c 2 true 4,.t 3]⟩
def Un:AC:=sr [bt 40 .lss 39 38] (seq (cn 40 skip (exit 1)) (seq (block 2 (sr [ix 41 4 37 39,lg 42 4 41,alloc 6 du,su 4 6 42] (cD [mt 43 4,lg 44 4 6,ka 45 BI 44,bsl 46 1 [t 45],ap 47 1 16 43 46,mt 4 47]))) (cD [bi 48 .add 39 1,mt 39 48])))
def zW4:bL:=⟨55,sr [box 1 (t 0),mv 2 (.c (.d (.str [])))] (sr [mv 3 (.c (.d (.str [])))] (seq (sr [ft 7 0 1,lf 8 1 7] (block 0 (sr [bi 13 .eql 8 1,mt 12 13] (cn 12 (rr [ft 14 2 1,lf 15 1 14,ka 16 strconv_Itoa 15,mt 2 16]) (sr [bi 18 .eql 8 2,mt 17 18] (cn 17 (rr [ft 19 2 1,lf 20 1 19,bi 21 .eql 20 1,ka 22 Ll 21,mt 2 22]) (sr [bi 24 .eql 8 3,mt 23 24] (cn 23 (rr [ft 25 1 1,lf 26 1 25,mt 2 26]) (sr [bi 28 .eql 8 4,mt 27 28] (cn 27 (cD [ft 29 1 1,lf 30 1 29,mt 3 30]) (sr [bi 32 .eql 8 5,mt 31 32] (cn 31 (cD [ft 33 1 1,lf 34 1 33,bin 35 .add (.c (.d (.str [63]))) (t 34),mt 3 35]) (cD [ft 9 0 1,lf 10 1 9,ka 11 K5 10,mt 3 11]))))))))))))) (sr [mv 4 (.c (.full []))] (seq (sr [ft 36 3 1,lf 37 1 36,ln 38 37,mi 39 0] (block 1 (loop Un))) (rr [mt 49 3,bq 50 .add 49 (.c (.d (.str [40]))),mt 51 4,kc 52 strings_Join [t 51,.c (.d (.str [44]))],bt 53 .add 50 52,bq 54 .add 53 (.c (.d (.str [41]))),mt 2 54]))))),[.t 2]⟩
def zqt:AC:=seq (sr [mt 35 4,ft 36 3 1,lf 37 1 36,ln 38 37,bt 39 .lss 35 38] (cn 39 skip (exit 1))) (seq (block 2 (seq (sr [mt 42 4,bi 43 .gtr 42 0] (ci 43 (cD [mt 44 3,bq 45 .add 44 (.c (.d (.str [44]))),mt 3 45]))) (cD [mt 46 3,ft 47 3 1,lf 48 1 47,mt 49 4,ix 50 4 48 49,lg 51 4 50,ka 52 V3 51,bt 53 .add 46 52,mt 3 53]))) (cD [mt 40 4,bi 41 .add 40 1,mt 4 41]))
def zQH:bL:=⟨56,sr [box 1 (t 0),mv 2 (.c (.d (.str [])))] (sr [ft 5 0 1,lf 6 1 5,ka 7 zXG 6,mt 3 7] (seq (sr [ft 8 0 1,lf 9 1 8] (block 0 (sr [bi 11 .eql 9 1,mt 10 11] (cn 10 (rr [ft 12 2 1,lf 13 1 12,ka 14 HI 13,mt 2 14]) (sr [bi 16 .eql 9 2,mt 15 16] (cn 15 (seq (sr [ft 17 2 1,lf 18 1 17,bi 19 .eql 18 1] (ci 19 (rr [mv 2 (.c (.d (.str [116,114,117,101])))]))) (rr [mv 2 (.c (.d (.str [102,97,108,115,101])))])) (sr [bi 21 .eql 9 3,mt 20 21] (cn 20 (rr [ft 22 1 1,lf 23 1 22,mt 2 23]) (sr [bi 25 .eql 9 4,mt 24 25] (cn 24 (cD [ft 26 1 1,lf 27 1 26,mt 3 27]) (sr [bi 29 .eql 9 5,mt 28 29] (ci 28 (cD [ft 30 1 1,lf 31 1 30,bin 32 .add (.c (.d (.str [63]))) (t 31),mt 3 32]))))))))))))) (sr [mt 33 3,bq 34 .add 33 (.c (.d (.str [40]))),mt 3 34] (seq (sr [mi 4 0] (block 1 (loop zqt))) (rr [mt 54 3,bq 55 .add 54 (.c (.d (.str [41]))),mt 2 55]))))),[.t 2]⟩
def zql:AC:=sr [bt 38 .lss 37 36] (seq (cn 38 skip (exit 0)) (seq (block 1 (sr [mt 39 37,mt 5 39] (seq (cm [ft 40 3 2,lf 41 1 40,mt 42 5,ix 43 4 41 42,lg 44 4 43,ft 45 3 3,lf 46 1 45,mt 47 5,ix 48 4 46 47,lg 49 4 48,kb 50 Lk 44 49,nu 51 50]) (ci 51 (rr [mv 4 false]))))) (cD [bi 52 .add 37 1,mt 37 52])))
def zQu:bL:=⟨53,sr [box 2 (t 0),box 3 (t 1),mv 4 false] (seq (sr [ft 6 0 2,lf 7 1 6,ft 8 0 3,lf 9 1 8,bt 10 .neq 7 9,mt 11 10,(gf 11,ft 12 1 2),(gf 11,lf 13 1 12),(gf 11,ft 14 1 3),(gf 11,lf 15 1 14),(gf 11,bt 16 .neq 13 15),ou 17 11 16,mt 18 17,(gf 18,ft 19 2 2),(gf 18,lf 20 1 19),(gf 18,ft 21 2 3),(gf 18,lf 22 1 21),(gf 18,bt 23 .neq 20 22),ou 24 18 23,mt 25 24,(gf 25,ft 26 3 2),(gf 25,lf 27 1 26),(gf 25,ln 28 27),(gf 25,ft 29 3 3),(gf 25,lf 30 1 29),(gf 25,ln 31 30),(gf 25,bt 32 .neq 28 31),ou 33 25 32] (ci 33 (rr [mv 4 false]))) (seq (sr [ft 34 3 2,lf 35 1 34,ln 36 35,mi 37 0] (block 0 (loop zql))) (rr [mv 4 true]))),[.t 4]⟩
def zV4:bL:=⟨11,sr [box 1 (t 0),mi 2 0] (seq (sr [lg 3 4 1,ka 4 Gx 3,bi 5 .gtr 4 400] (ci 5 (rr [mi 2 7]))) (seq (sr [lg 6 4 1,ka 7 VX 6,bi 8 .gtr 7 40] (ci 8 (rr [mi 2 8]))) (rr [lg 9 4 1,ka 10 VU 9,mt 2 10]))),[.t 2]⟩
def zVP:bL:=⟨19,sr [box 1 (t 0),mv 2 false] (rr [ft 3 0 1,lf 4 1 3,ln 5 4,bi 6 .leq 5 12,mt 7 6,(gt 7,ft 8 1 1),(gt 7,lf 9 1 8),(gt 7,ln 10 9),(gt 7,bi 11 .leq 10 8),an 12 7 11,mt 13 12,(gt 13,ft 14 2 1),(gt 13,lf 15 1 14),(gt 13,ln 16 15),(gt 13,bi 17 .leq 16 4),an 18 13 17,mt 2 18]),[.t 2]⟩
def Uy:AC:=sr [bt 56 .lss 55 54] (seq (cn 56 skip (exit 4)) (seq (block 5 (sr [mt 57 55,mt 11 57] (cm [mt 58 10,lg 59 3 2,ft 60 3 7,lf 61 1 60,mt 62 11,ix 63 4 61 62,lg 64 4 63,ft 65 3 9,lf 66 1 65,mt 67 11,ix 68 4 66 67,lg 69 4 68,kc 70 Hw [t 59,t 64,t 69],bsl 71 4 [t 70],ap 72 4 56 58 71,mt 10 72]))) (cD [bi 73 .add 55 1,mt 55 73])))
def Uz:AC:=sr [bt 25 .lss 24 23] (seq (cn 25 skip (exit 2)) (seq (block 3 (sr [ix 26 4 22 24,lg 27 4 26,alloc 9 du,su 4 9 27] (seq (sr [ft 28 0 7,lf 29 1 28,bi 30 .neq 29 4,mt 31 30,(gf 31,ft 32 0 9),(gf 31,lf 33 1 32),(gf 31,bi 34 .neq 33 4),ou 35 31 34,mt 36 35,(gf 36,ft 37 1 7),(gf 36,lf 38 1 37),(gf 36,ft 39 1 9),(gf 36,lf 40 1 39),(gf 36,bt 41 .neq 38 40),ou 42 36 41,mt 43 42,(gf 43,lg 44 3 2),(gf 43,ft 45 3 7),(gf 43,lf 46 1 45),(gf 43,ft 47 3 9),(gf 43,lf 48 1 47),(gf 43,.call (some 49) KT [t 44,t 46,t 48]),(gf 43,nu 50 49),ou 51 43 50] (ci 51 (exit 3))) (sr [mv 10 (.c (.full []))] (seq (sr [ft 52 3 7,lf 53 1 52,ln 54 53,mi 55 0] (block 4 (loop Uy))) (cm [mt 74 5,mt 75 10,ka 76 Hb 75,lg 77 3 2,lg 78 4 7,lg 79 4 9,kc 80 Hw [t 77,t 78,t 79],kc 81 yr [.c (.d (.int .i64 17)),t 76,t 80],bsl 82 4 [t 81],ap 83 4 56 74 82,mt 5 83])))))) (cD [bi 84 .add 24 1,mt 24 84])))
def UA:AC:=sr [bt 15 .lss 14 13] (seq (cn 15 skip (exit 0)) (seq (block 1 (sr [mt 16 14,ix 17 4 12 14,lg 18 4 17,alloc 7 du,mt 6 16,su 4 7 18] (sr [mt 19 1,mt 20 6,bi 21 .add 20 1,lfrom 22 4 (t 19) (t 21),ln 23 22,mi 24 0] (block 2 (loop Uz))))) (cD [bi 85 .add 14 1,mt 14 85])))
def zZ1:bL:=⟨87,sr [box 2 (t 0),mv 4 (.c (.full []))] (sr [mv 5 (.c (.full []))] (seq (sr [mt 12 1,ln 13 12,mi 14 0] (block 0 (loop UA))) (rr [mt 86 5,mt 4 86]))),[.t 4]⟩
def zk0:AC:=seq (sr [mt 63 12,ft 64 3 8,lf 65 1 64,ln 66 65,bt 67 .lss 63 66] (cn 67 skip (exit 4))) (seq (block 5 (seq (cm [lg 71 3 2,ft 72 3 8,lf 73 1 72,mt 74 12,ix 75 4 73 74,lg 76 4 75,kb 77 NP 71 76,mt 70 77,eu 78 70 0,eu 79 70 1,mt 13 78,mt 14 79]) (seq (cm [lg 81 3 2,ft 82 3 9,lf 83 1 82,mt 84 12,ix 85 4 83 84,lg 86 4 85,kb 87 NP 81 86,mt 80 87,eu 88 80 0,eu 89 80 1,mt 15 88,mt 16 89]) (sr [mt 90 11,mt 91 90,(gt 91,mt 92 13),(gt 91,mt 93 15),(gt 91,bt 94 .eql 92 93),an 95 91 94,mt 11 95] (cm [mt 96 10,lg 97 3 2,ft 98 3 8,lf 99 1 98,mt 100 12,ix 101 4 99 100,lg 102 4 101,ft 103 3 9,lf 104 1 103,mt 105 12,ix 106 4 104 105,lg 107 4 106,kc 108 V8 [t 97,t 102,t 107],bsl 109 4 [t 108],ap 110 4 56 96 109,mt 10 110]))))) (cD [mt 68 12,bi 69 .add 68 1,mt 12 69]))
def zk1:AC:=seq (sr [mt 25 7,mt 26 1,ln 27 26,bt 28 .lss 25 27] (cn 28 skip (exit 2))) (seq (block 3 (seq (.xd [8,9,8,9] [mt 31 1,mt 32 6,ix 33 4 31 32,lg 34 4 33,mt 35 1,mt 36 7,ix 37 4 35 36,lg 38 4 37,alloc 8 du,alloc 9 du,su 4 8 34,su 4 9 38]) (seq (sr [ft 39 0 8,lf 40 1 39,bi 41 .neq 40 4,mt 42 41,(gf 42,ft 43 0 9),(gf 42,lf 44 1 43),(gf 42,bi 45 .neq 44 4),ou 46 42 45,mt 47 46,(gf 47,ft 48 1 8),(gf 47,lf 49 1 48),(gf 47,ft 50 1 9),(gf 47,lf 51 1 50),(gf 47,bt 52 .neq 49 51),ou 53 47 52,mt 54 53,(gf 54,ft 55 3 8),(gf 54,lf 56 1 55),(gf 54,ln 57 56),(gf 54,ft 58 3 9),(gf 54,lf 59 1 58),(gf 54,ln 60 59),(gf 54,bt 61 .neq 57 60),ou 62 54 61] (ci 62 (exit 3))) (sr [mv 10 (.c (.full []))] (sr [mv 11 true] (seq (sr [mi 12 0] (block 4 (loop zk0))) (seq (sr [mt 111 11,nu 112 111] (ci 112 (exit 3))) (cm [mt 113 5,mt 114 10,ka 115 VK 114,lg 116 3 2,lg 117 4 8,lg 118 4 9,kc 119 V8 [t 116,t 117,t 118],bsl 120 4 [t 115,t 119],build 121 du [(0,1,.c (.d (.int .i64 17))),(3,1,t 120)],bsl 122 4 [t 121],ap 123 4 56 113 122,mt 5 123])))))))) (cD [mt 29 7,bi 30 .add 29 1,mt 7 30]))
def zk2:AC:=seq (sr [mt 17 6,mt 18 1,ln 19 18,bt 20 .lss 17 19] (cn 20 skip (exit 0))) (seq (block 1 (sr [mt 23 6,bi 24 .add 23 1,mt 7 24] (block 2 (loop zk1)))) (cD [mt 21 6,bi 22 .add 21 1,mt 6 22]))
def zX1:bL:=⟨125,sr [box 2 (t 0),mv 4 (.c (.full []))] (sr [mv 5 (.c (.full []))] (seq (sr [mi 6 0] (block 0 (loop zk2))) (rr [mt 124 5,mt 4 124]))),[.t 4]⟩
def KQ:bL:=⟨19,sr [box 2 (t 0),box 3 (t 1),mv 4 (.c (.d (.str []))),mi 5 0] (seq (sr [lg 8 4 3,ka 9 GB 8,mt 6 9] (sr [mt 10 6,bi 11 .neq 10 0] (ci 11 (rr [mt 12 6,mv 4 (.c (.d (.str []))),mt 5 12])))) (sr [alloc 7 [.d (.oB)]] (sr [mkf 13 yv [t 7,t 2],su 1 7 13] (rr [lf 14 1 7,lg 15 4 3,call (some 16) (t 14) [t 15],eu 17 16 0,eu 18 16 1,mt 4 17,mt 5 18])))),[.t 4,.t 5]⟩
def zYa:AC:=cD [alloc 3 du,su 4 3 13]
def zYb:AC:=block 1 (sr [lg 14 4 3,ka 15 He 14,mt 4 15] (sr [mt 16 4,bi 17 .neq 16 0] (ci 17 (rr [mt 18 4,su 1 2 18]))))
def zKd:bL:=⟨19,sr [box 1 (t 0),alloc 2 [(0:Int)]] (seq (sr [lg 5 4 1,ka 6 Hp 5,bi 7 .gtr 6 400] (ci 7 (rr [st 1 (t 2) (7:Int)]))) (seq (sr [lg 8 4 1,ka 9 Ho 8,bi 10 .gtr 9 40] (ci 10 (rr [st 1 (t 2) (8:Int)]))) (seq (sr [lg 11 4 1,ka 12 H2 11] (block 0 (.Ei (t 12) [13] [13,3,14,15,4,16,17,18] zYa zYb))) (rr [st 1 (t 2) (0:Int)])))),[.c 2 false 1]⟩
def zYM:bL:=⟨23,sr [box 2 (t 0),box 3 (t 1),mi 4 0] (seq (sr [lg 7 4 3,build 8 du [],kb 9 tN 7 8] (ci 9 (rr [mi 4 0]))) (sr [lg 11 3 2,lg 12 4 3,kb 13 rF 11 12,mt 10 13,eu 14 10 0,eu 15 10 1,mt 5 14,mt 6 15] (seq (sr [mt 16 6,bi 17 .eql 16 0,mt 18 17,(gt 18,mt 19 5),(gt 18,bq 20 .neq 19 (.c (.d (.str [66,111,111,108])))),an 21 18 20] (ci 21 (rr [mi 4 11]))) (rr [mt 22 6,mt 4 22])))),[.t 4]⟩
def UE:AC:=seq (sr [mt 43 10,lf 44 1 7,nck 45 (t 44),ft 46 5 45,lf 47 1 46,ln 48 47,bt 49 .lss 43 48,mt 50 49,(gt 50,lf 51 1 7),(gt 50,.nck 52 (t 51)),(gt 50,ft 53 7 52),(gt 50,lf 54 1 53),(gt 50,nu 55 54),an 56 50 55] (cn 56 skip (exit 0))) (seq (block 1 (.scope (seq (.pw [59,69,70,73,76] [lf 59 1 8,lf 60 1 7,lf 61 1 7,nck 62 (t 61),ft 63 5 62,lf 64 1 63,mt 65 10,ix 66 1 64 65,lf 67 1 66,kd 68 HK [t 60,t 67,.c (.d (.bool false))],lf 69 1 7,lf 70 1 7,nck 71 (t 70),ft 72 5 71,lf 73 1 72,mt 74 10,ix 75 1 73 74,lf 76 1 75,kd 77 HK [t 69,t 76,.c (.d (.bool true))],ln 78 59,bslz 79 4 [.c (.agg du),.c (.agg du)]]) (.alt (.alt (sr [ap 80 4 56 59 79] (.alt (.alt (sr [ix 81 4 80 78] (.alt (.alt (sr [su 4 81 68] (.alt (sr [bi 82 .add 78 1] (.alt (sr [ix 83 4 80 82] (.alt (sr [su 4 83 77] (sr [su 1 8 80] skip)) (sr [su 1 8 80] (sr [su 4 83 77] skip)))) (sr [su 1 8 80] (sr [ix 83 4 80 82] (sr [su 4 83 77] skip))))) (sr [su 1 8 80] (sr [bi 82 .add 78 1] (sr [ix 83 4 80 82] (sr [su 4 83 77] skip)))))) (sr [bi 82 .add 78 1] (.alt (sr [su 4 81 68] (.alt (sr [ix 83 4 80 82] (.alt (sr [su 4 83 77] (sr [su 1 8 80] skip)) (sr [su 1 8 80] (sr [su 4 83 77] skip)))) (sr [su 1 8 80] (sr [ix 83 4 80 82] (sr [su 4 83 77] skip))))) (sr [su 1 8 80] (sr [su 4 81 68] (sr [ix 83 4 80 82] (sr [su 4 83 77] skip))))))) (sr [su 1 8 80] (.alt (sr [su 4 81 68] (sr [bi 82 .add 78 1] (sr [ix 83 4 80 82] (sr [su 4 83 77] skip)))) (sr [bi 82 .add 78 1] (sr [su 4 81 68] (sr [ix 83 4 80 82] (sr [su 4 83 77] skip)))))))) (sr [bi 82 .add 78 1] (.alt (sr [ix 81 4 80 78] (.alt (sr [su 4 81 68] (.alt (sr [ix 83 4 80 82] (.alt (sr [su 4 83 77] (sr [su 1 8 80] skip)) (sr [su 1 8 80] (sr [su 4 83 77] skip)))) (sr [su 1 8 80] (sr [ix 83 4 80 82] (sr [su 4 83 77] skip))))) (sr [su 1 8 80] (sr [su 4 81 68] (sr [ix 83 4 80 82] (sr [su 4 83 77] skip)))))) (sr [su 1 8 80] (sr [ix 81 4 80 78] (sr [su 4 81 68] (sr [ix 83 4 80 82] (sr [su 4 83 77] skip)))))))) (sr [su 1 8 80] (.alt (sr [ix 81 4 80 78] (.alt (sr [su 4 81 68] (sr [bi 82 .add 78 1] (sr [ix 83 4 80 82] (sr [su 4 83 77] skip)))) (sr [bi 82 .add 78 1] (sr [su 4 81 68] (sr [ix 83 4 80 82] (sr [su 4 83 77] skip)))))) (sr [bi 82 .add 78 1] (sr [ix 81 4 80 78] (sr [su 4 81 68] (sr [ix 83 4 80 82] (sr [su 4 83 77] skip))))))))) (sr [bi 82 .add 78 1] (sr [ap 80 4 56 59 79] (.alt (sr [ix 81 4 80 78] (.alt (sr [su 4 81 68] (.alt (sr [ix 83 4 80 82] (.alt (sr [su 4 83 77] (sr [su 1 8 80] skip)) (sr [su 1 8 80] (sr [su 4 83 77] skip)))) (sr [su 1 8 80] (sr [ix 83 4 80 82] (sr [su 4 83 77] skip))))) (sr [su 1 8 80] (sr [su 4 81 68] (sr [ix 83 4 80 82] (sr [su 4 83 77] skip)))))) (sr [su 1 8 80] (sr [ix 81 4 80 78] (sr [su 4 81 68] (sr [ix 83 4 80 82] (sr [su 4 83 77] skip))))))))) (seq (cm [bi 82 .add 78 1]) (sr [ap 80 4 56 59 79] (.alt (sr [ix 81 4 80 78] (.alt (sr [su 4 81 68] (.alt (sr [ix 83 4 80 82] (.alt (sr [su 4 83 77] (sr [su 1 8 80] skip)) (sr [su 1 8 80] (sr [su 4 83 77] skip)))) (sr [su 1 8 80] (sr [ix 83 4 80 82] (sr [su 4 83 77] skip))))) (sr [su 1 8 80] (sr [su 4 81 68] (sr [ix 83 4 80 82] (sr [su 4 83 77] skip)))))) (sr [su 1 8 80] (sr [ix 81 4 80 78] (sr [su 4 81 68] (sr [ix 83 4 80 82] (sr [su 4 83 77] skip)))))))))))) (cD [mt 57 10,bi 58 .add 57 1,mt 10 58]))
def zqR:bL:=⟨103,sr [box 2 (t 0),box 3 (t 1),alloc 4 wA,mi 5 0] (seq (sr [lg 11 3 2,lg 12 4 3,kb 13 Ld 11 12,mt 6 13] (sr [mt 14 6,bi 15 .neq 14 0] (ci 15 (rr [build 16 wA [],mt 17 6,su 5 4 16,mt 5 17])))) (seq (sr [lg 18 4 3,ka 19 KK 18,ln 20 19,bi 21 .gtr 20 0] (ci 21 (rr [build 22 wA [],su 5 4 22,mi 5 6]))) (sr [lg 23 3 2,mkm 24 jt pS,mkm 25 jt rA,build 26 [.full [],.full [],.full [],.undef,.full [],.full [],.undef,.d (.bool false)] [(0,3,t 23),(3,1,t 24),(6,1,t 25)],box 27 (t 26),alloc 7 [.d (.jY)],su 1 7 27] (sr [alloc 8 [.full []]] (sr [alloc 9 [.d (.oB)]] (sr [mkf 28 x3 [t 7,t 8,t 9],su 1 9 28] (seq (sr [lg 29 4 3,build 30 du [],kb 31 tN 29 30,nu 32 31] (ci 32 (cD [lf 33 1 9,lg 34 4 3,bsl 35 4 [t 34],call (some 36) (t 33) [t 35]]))) (seq (.scope (seq (cm [lf 37 1 9,lg 38 3 2,lg 39 4 3,ka 40 DY 39,kb 41 HC 38 40]) (sr [call (some 42) (t 37) [t 41]] skip))) (seq (sr [mi 10 0] (block 0 (loop UE))) (seq (sr [lf 84 1 7,nck 85 (t 84),ft 86 7 85,lf 87 1 86] (ci 87 (rr [build 88 wA [],su 5 4 88,mi 5 2]))) (seq (sr [lf 89 1 7,nck 90 (t 89),ft 91 4 90,lf 92 1 91,ln 93 92,bi 94 .gtr 93 40] (ci 94 (rr [build 95 wA [],su 5 4 95,mi 5 7]))) (seq (cm [lf 96 1 8,ka 97 Hb 96,lf 98 1 7,nck 99 (t 98),ft 100 4 99,lf 101 1 100,build 102 wA [(0,4,t 97),(4,1,t 101)],su 5 4 102,mi 5 0]) ret)))))))))))),[.c 4 true 5,.t 5]⟩
def zkC:AC:=seq (sr [mt 55 11,mt 56 7,nck 57 (t 56),ft 58 4 57,lf 59 1 58,ln 60 59,bt 61 .lss 55 60] (cn 61 skip (exit 2))) (seq (block 3 (.scope (seq (.pw [79,82] [mt 64 8,mt 65 7,mt 66 7,nck 67 (t 66),ft 68 4 67,lf 69 1 68,mt 70 11,ix 71 4 69 70,lg 72 4 71,kc 73 TR [t 72,.c (.d (.int .i64 (-1))),.c (.d (.int .i64 0))],kd 74 OD [t 65,t 73],mt 75 7,mt 76 7,nck 77 (t 76),ft 78 4 77,lf 79 1 78,mt 80 11,ix 81 4 79 80,lg 82 4 81,kc 83 TR [t 82,.c (.d (.int .i64 1)),.c (.d (.int .i64 (-1)))],kd 84 OD [t 75,t 83],bsl 85 4 [t 74,t 84],ap 86 4 56 64 85,mt 8 86]) skip))) (cD [mt 62 11,bi 63 .add 62 1,mt 11 63]))
def zkD:AC:=seq (sr [mt 40 10,mt 41 9,ln 42 41,bt 43 .lss 40 42] (cn 43 skip (exit 0))) (seq (block 1 (cD [mt 46 8,mt 47 7,mt 48 9,mt 49 10,ix 50 4 48 49,lg 51 4 50,kd 52 Pk [t 47,t 51],bsl 53 4 [t 52],ap 54 4 56 46 53,mt 8 54])) (cD [mt 44 10,bi 45 .add 44 1,mt 10 45]))
def zYH:bL:=⟨104,sr [box 2 (t 0),box 3 (t 1),alloc 4 wA,mi 5 0] (sr [lg 12 3 2,lg 13 4 3,kb 14 zXC 12 13,mt 6 14] (seq (sr [mt 15 6,bi 16 .neq 15 0] (ci 16 (rr [build 17 wA [],mt 18 6,su 5 4 17,mt 5 18]))) (seq (sr [lg 19 4 3,ka 20 zZf 19,ln 21 20,bi 22 .gtr 21 0] (ci 22 (rr [build 23 wA [],su 5 4 23,mi 5 6]))) (sr [lg 24 3 2,build 25 [.full [],.full [],.full [],.full [],.full [],.d (.bool false),.d (.bool false)] [(0,3,t 24)],box 26 (t 25),mt 7 26] (sr [mv 8 (.c (.full []))] (seq (sr [lg 27 4 3,ka 28 VV 27,nu 29 28] (ci 29 (.Af [mt 30 8,mt 31 7,lg 32 4 3,kd 33 Pk [t 31,t 32],bsl 34 4 [t 33],ap 35 4 56 30 34,mt 8 35]))) (seq (cm [lg 36 3 2,lg 37 4 3,ka 38 zZL 37,kb 39 zkc 36 38,mt 9 39]) (seq (sr [mi 10 0] (block 0 (loop zkD))) (seq (sr [mi 11 0] (block 2 (loop zkC))) (seq (sr [mt 87 7,nck 88 (t 87),ft 89 6 88,lf 90 1 89] (ci 90 (rr [build 91 wA [],su 5 4 91,mi 5 2]))) (seq (sr [mt 92 7,nck 93 (t 92),ft 94 5 93,lf 95 1 94] (ci 95 (rr [build 96 wA [],su 5 4 96,mi 5 7]))) (seq (cm [mt 97 8,ka 98 VK 97,mt 99 7,nck 100 (t 99),ft 101 3 100,lf 102 1 101,build 103 wA [(0,4,t 98),(4,1,t 102)],su 5 4 103,mi 5 0]) ret)))))))))))),[.c 4 true 5,.t 5]⟩
def zqv:AC:=seq (sr [mt 21 5,ft 22 4 2,lf 23 1 22,ln 24 23,bt 25 .lss 21 24] (cn 25 skip (exit 0))) (seq (block 1 (seq (cm [ft 28 4 2,lf 29 1 28,mt 30 5,ix 31 2 29 30,lg 32 2 31,ft 33 4 3,lf 34 1 33,mt 35 5,ix 36 2 34 35,lg 37 2 36,kb 38 V5 32 37,nu 39 38]) (ci 39 (rr [mv 4 false])))) (cD [mt 26 5,bi 27 .add 26 1,mt 5 27]))
def zQJ:bL:=⟨40,sr [box 2 (t 0),box 3 (t 1),mv 4 false] (seq (sr [ft 6 4 2,lf 7 1 6,ln 8 7,ft 9 4 3,lf 10 1 9,ln 11 10,bt 12 .neq 8 11,mt 13 12,(gf 13,ft 14 0 2),(gf 13,lg 15 4 14),(gf 13,ft 16 0 3),(gf 13,lg 17 4 16),(gf 13,.call (some 18) Lk [t 15,t 17]),(gf 13,nu 19 18),ou 20 13 19] (ci 20 (rr [mv 4 false]))) (seq (sr [mi 5 0] (block 0 (loop zqv))) (rr [mv 4 true]))),[.t 4]⟩
def xZ:bL:=⟨122,sr [box 2 (t 0),mi 4 0] (seq (sr [ft 9 0 2,lf 10 1 9] (block 0 (sr [bi 12 .eql 10 2,mt 11 12] (cn 11 (seq (sr [ft 13 3 2,lf 14 1 13,ln 15 14,bi 16 .gtr 15 0] (ci 16 (rr [mv 4 (-1:Int)]))) (rr [ft 17 2 2,lf 18 1 17,bi 19 .eql 18 1,ka 20 F8 19,mt 4 20])) (seq (sr [bi 22 .eql 10 13,mt 21 22] (cn 21 skip (cD [bi 23 .eql 10 10,mt 21 23]))) (cn 21 (sr [lg 25 4 2,mt 26 1,kb 27 K4 25 26,mt 24 27,eu 28 24 0,eu 29 24 1,mt 5 28,mt 6 29] (seq (sr [mt 30 6,nu 31 30] (ci 31 (rr [mv 4 (-1:Int)]))) (rr [mt 32 5,bi 33 .eql 32 0,mt 34 33,(gf 34,ft 35 0 2),(gf 34,lf 36 1 35),(gf 34,bi 37 .eql 36 13),(gf 34,mt 38 37),(gt 38,mt 39 5),(gt 38,bi 40 .lss 39 0),(gf 34,an 41 38 40),ou 42 34 41,ka 43 F8 42,mt 4 43]))) (sr [bi 45 .eql 10 14,mt 44 45] (ci 44 (seq (sr [ft 46 3 2,lf 47 1 46,ln 48 47,bi 49 .eql 48 1] (ci 49 (rr [ft 50 3 2,lf 51 1 50,idx 52 4 (t 51) (0:Int),lg 53 4 52,mt 54 1,kb 55 BH 53 54,ka 56 Bq 55,mt 4 56]))) (rr [mv 4 (-1:Int)])))))))))) (seq (sr [ft 57 3 2,lf 58 1 57,ln 59 58,bi 60 .neq 59 2,mt 61 60,(gf 61,ft 62 0 2),(gf 61,lf 63 1 62),(gf 61,bi 64 .lss 63 15),ou 65 61 64,mt 66 65,(gf 66,ft 67 0 2),(gf 66,lf 68 1 67),(gf 66,bi 69 .gtr 68 18),ou 70 66 69] (ci 70 (rr [mv 4 (-1:Int)]))) (sr [ft 71 3 2,lf 72 1 71,idx 73 4 (t 72) (0:Int),lg 74 4 73,mt 75 1,kb 76 BH 74 75,mt 7 76] (seq (sr [ft 77 0 2,lf 78 1 77,bi 79 .eql 78 15,mt 80 79,(gt 80,mt 81 7),(gt 80,bi 82 .eql 81 0),an 83 80 82] (ci 83 (rr [mi 4 0]))) (sr [ft 84 3 2,lf 85 1 84,idx 86 4 (t 85) (1:Int),lg 87 4 86,mt 88 1,kb 89 BH 87 88,mt 8 89] (seq (sr [ft 90 0 2,lf 91 1 90] (block 1 (sr [bi 93 .eql 91 15,mt 92 93] (cn 92 (rr [mt 94 7,mt 95 8,kb 96 FZ 94 95,mt 4 96]) (sr [bi 98 .eql 91 16,mt 97 98] (cn 97 (rr [mt 99 7,ka 100 Bq 99,mt 101 8,ka 102 Bq 101,kb 103 FZ 100 102,ka 104 Bq 103,mt 4 104]) (sr [bi 106 .eql 91 17,mt 105 106] (ci 105 (rr [mt 107 7,mt 108 8,ka 109 Bq 108,kb 110 FZ 107 109,ka 111 Bq 110,mt 4 111]))))))))) (seq (sr [mt 112 7,bi 113 .lss 112 0,mt 114 113,(gf 114,mt 115 8),(gf 114,bi 116 .lss 115 0),ou 117 114 116] (ci 117 (rr [mv 4 (-1:Int)]))) (rr [mt 118 7,mt 119 8,bt 120 .eql 118 119,ka 121 F8 120,mt 4 121])))))))),[.t 4]⟩
def Uo:AC:=sr [bt 15 .lss 14 13] (seq (cn 15 skip (exit 0)) (seq (block 1 (sr [mt 16 14,mt 6 16] (seq (cm [mt 18 0,mt 19 6,ix 20 2 18 19,lg 21 2 20,mt 22 1,mt 23 6,ix 24 1 22 23,lf 25 1 24,kb 26 KZ 21 25,mt 17 26,eu 27 17 0,eu 28 17 1,alloc 7 xV,su 3 7 27,mt 8 28]) (sr [mt 29 8] (ci 29 (cD [mt 30 5,lg 31 3 7,bsl 32 3 [t 31],ap 33 3 40 30 32,mt 5 33])))))) (cD [bi 34 .add 14 1,mt 14 34])))
def zW5:bL:=⟨36,sr [mv 4 (.c (.full []))] (sr [mv 5 (.c (.full []))] (seq (sr [mt 9 0,ln 10 9,mt 11 1,ln 12 11,min 13 (t 10) (t 12),mi 14 0] (block 0 (loop Uo))) (rr [mt 35 5,mt 4 35]))),[.t 4]⟩
def zZD:bL:=⟨48,sr [box 1 (t 0),alloc 2 kE,mi 3 0] (seq (sr [lg 6 2 1,ka 7 Ia 6,bi 8 .neq 7 0] (ci 8 (rr [build 9 kE [],su 2 2 9,mi 3 0]))) (seq (sr [ft 10 0 1,lf 11 1 10,ln 12 11,bi 13 .eql 12 0] (ci 13 (seq (block 0 (sr [ft 15 1 1,lf 16 1 15,bi 17 .gtr 16 0,mt 14 17] (cn 14 (rr [build 18 kE [(1,1,.c (.d (.int .i64 1)))],su 2 2 18,mi 3 1]) (sr [ft 20 1 1,lf 21 1 20,bi 22 .lss 21 0,mt 19 22] (ci 19 (rr [build 23 kE [(1,1,.c (.d (.int .i64 1)))],su 2 2 23,mv 3 (-1:Int)])))))) (rr [build 24 kE [],su 2 2 24,mi 3 1])))) (seq (cm [lg 25 2 1,ka 26 zvf 25,ft 27 1 1,lf 28 1 27,kb 29 VI 26 28,mt 4 29]) (sr [mi 5 1] (seq (sr [ft 30 0 1,lf 31 1 30,idx 32 2 (t 31) (0:Int),ft 33 1 32,lf 34 1 33,bi 35 .lss 34 0] (ci 35 (cD [mv 5 (-1:Int)]))) (seq (cm [lg 36 2 1,mt 37 4,mt 38 5,bt 39 .mul 37 38,ft 40 1 1,lf 41 1 40,mt 42 4,mt 43 5,bt 44 .mul 42 43,bt 45 .quo 41 44,kc 46 zxi [t 36,t 39,t 45],mt 47 5,su 2 2 46,mt 3 47]) ret)))))),[.c 2 true 2,.t 3]⟩
def zqr:AC:=seq (sr [mt 20 5,ft 21 0 2,lf 22 1 21,ln 23 22,bt 24 .lss 20 23] (cn 24 skip (exit 0))) (seq (block 1 (seq (cm [ft 27 0 2,lf 28 1 27,mt 29 5,ix 30 2 28 29,lg 31 2 30,ft 32 0 3,lf 33 1 32,mt 34 5,ix 35 2 33 34,lg 36 2 35,aeq 37 true nO (t 31) (t 36)]) (ci 37 (rr [mv 4 false])))) (cD [mt 25 5,bi 26 .add 25 1,mt 5 26]))
def zQF:bL:=⟨38,sr [box 2 (t 0),box 3 (t 1),mv 4 false] (seq (sr [ft 6 0 2,lf 7 1 6,ln 8 7,ft 9 0 3,lf 10 1 9,ln 11 10,bt 12 .neq 8 11,mt 13 12,(gf 13,ft 14 1 2),(gf 13,lf 15 1 14),(gf 13,ft 16 1 3),(gf 13,lf 17 1 16),(gf 13,bt 18 .neq 15 17),ou 19 13 18] (ci 19 (rr [mv 4 false]))) (seq (sr [mi 5 0] (block 0 (loop zqr))) (rr [mv 4 true]))),[.t 4]⟩
def Ua:AC:=sr [bt 10 .lss 9 8] (seq (cn 10 skip (exit 0)) (seq (block 1 (sr [ix 11 4 7 9,lg 12 4 11,alloc 5 du,su 4 5 12] (cD [mt 13 3,lg 14 4 5,ka 15 Gx 14,bt 16 .add 13 15,mt 3 16]))) (cD [bi 17 .add 9 1,mt 9 17])))
def zV8:bL:=⟨19,sr [box 1 (t 0),mi 2 0] (sr [mi 3 1] (seq (sr [ft 6 3 1,lf 7 1 6,ln 8 7,mi 9 0] (block 0 (loop Ua))) (rr [mt 18 3,mt 2 18]))),[.t 2]⟩
def yyh:bL:=⟨9,sr [alloc 0 [.full [],.full [],.full []]] (rr [build 1 [.d (.str []),.d (.str [])] [(0,1,.c (.d (.str [120]))),(1,1,.c (.d (.str [73,110,116])))],build 2 [.d (.str []),.d (.str [])] [(0,1,.c (.d (.str [121]))),(1,1,.c (.d (.str [73,110,116])))],build 3 [.d (.str []),.d (.str [])] [(0,1,.c (.d (.str [98]))),(1,1,.c (.d (.str [66,111,111,108])))],bsl 4 2 [t 1,t 2,t 3],bsl 5 1 [.c (.d (.str [73,110,116]))],build 6 BE [(0,1,.c (.d (.str [102]))),(1,1,t 5),(2,1,.c (.d (.str [73,110,116])))],bsl 7 3 [t 6],build 8 [.full [],.full [],.full []] [(0,1,t 4),(1,1,t 7)],su 3 0 8]),[.c 0 true 3]⟩
def yyi:bL:=⟨12,sr [box 4 (t 1),box 5 (t 2),alloc 6 du] (rr [mt 7 0,lg 8 4 4,lg 9 4 5,bsl 10 4 [t 8,t 9],build 11 du [(0,1,t 7),(3,1,t 10)],su 4 6 11]),[.c 6 true 4]⟩
def Zx:bL:=⟨5,sr [alloc 2 du] (rr [mt 3 0,build 4 du [(0,1,.c (.d (.int .i64 3))),(1,1,t 3)],su 4 2 4]),[.c 2 true 4]⟩
def yyg:bL:=⟨9,sr [box 3 (t 1),alloc 4 du] (rr [mt 5 0,lg 6 4 3,bsl 7 4 [t 6],build 8 du [(0,1,.c (.d (.int .i64 4))),(1,1,t 5),(3,1,t 7)],su 4 4 8]),[.c 4 true 4]⟩
def Zw:bL:=⟨5,sr [alloc 2 du] (rr [mt 3 0,build 4 du [(0,1,.c (.d (.int .i64 1))),(2,1,t 3)],su 4 2 4]),[.c 2 true 4]⟩
def zVT:bL:=⟨5,sr [box 1 (t 0),mv 2 (.c (.full []))] (rr [lg 3 4 1,kc 4 F1 [t 3,.c (.d (.int .i64 4)),.c (.full [])],mt 2 4]),[.t 2]⟩
def Up:AC:=sr [bt 23 .lss 22 21] (seq (cn 23 skip (exit 0)) (seq (block 1 (sr [ix 24 4 20 22,lg 25 4 24,alloc 5 du,su 4 5 25] (cm [ft 26 3 3,lf 27 1 26,lg 28 4 5,ka 29 Hf 28,bsl 30 4 [t 29],ap 31 4 56 27 30,ft 32 3 3,su 1 32 31]))) (cD [bi 33 .add 22 1,mt 22 33])))
def T2:bL:=⟨35,sr [box 1 (t 0),alloc 2 du] (seq (sr [ft 6 0 1,lf 7 1 6,bi 8 .eql 7 4] (ci 8 (rr [lg 9 4 1,ka 10 BI 9,build 11 du [(0,1,.c (.d (.int .i64 3))),(1,1,t 10)],su 4 2 11]))) (sr [ft 12 0 1,lf 13 1 12,ft 14 1 1,lf 15 1 14,ft 16 2 1,lf 17 1 16,build 18 du [(0,1,t 13),(1,1,t 15),(2,1,t 17)],alloc 3 du,su 4 3 18] (seq (sr [ft 19 3 1,lf 20 1 19,ln 21 20,mi 22 0] (block 0 (loop Up))) (rr [lg 34 4 3,su 4 2 34])))),[.c 2 true 4]⟩
def zqw:AC:=seq (sr [mt 18 4,ft 19 3 1,lf 20 1 19,ln 21 20,bt 22 .lss 18 21] (cn 22 skip (exit 0))) (seq (block 1 (cm [ft 25 3 3,lf 26 1 25,ft 27 3 1,lf 28 1 27,mt 29 4,ix 30 4 28 29,lg 31 4 30,ka 32 Pg 31,bsl 33 4 [t 32],ap 34 4 56 26 33,ft 35 3 3,su 1 35 34])) (cD [mt 23 4,bi 24 .add 23 1,mt 4 24]))
def zWk:bL:=⟨37,sr [box 1 (t 0),alloc 2 du] (seq (sr [ft 5 0 1,lf 6 1 5,bi 7 .eql 6 4] (ci 7 (rr [lg 8 4 1,ka 9 V3 8,build 10 du [(0,1,.c (.d (.int .i64 3))),(1,1,t 9)],su 4 2 10]))) (sr [ft 11 0 1,lf 12 1 11,ft 13 1 1,lf 14 1 13,ft 15 2 1,lf 16 1 15,build 17 du [(0,1,t 12),(1,1,t 14),(2,1,t 16)],alloc 3 du,su 4 3 17] (seq (sr [mi 4 0] (block 0 (loop zqw))) (rr [lg 36 4 3,su 4 2 36])))),[.c 2 true 4]⟩
def zQt:bL:=⟨5,sr [box 1 (t 0),mv 2 (.c (.full []))] (rr [lg 3 4 1,kc 4 UJ [t 3,.c (.d (.int .i64 4)),.c (.full [])],mt 2 4]),[.t 2]⟩
def zvy:bL:=⟨5,sr [mv 2 (.c (.d (.str [])))] (rr [mt 3 0,ka 4 Lt 3,mt 2 4]),[.t 2]⟩
def Ot:bL:=⟨16,sr [mv 2 (.c (.d (.str [])))] (sr [build 4 zoa [(0,1,.c (.d (.str [43]))),(1,1,.c (.d (.str [45]))),(2,1,.c (.d (.str [42]))),(3,1,.c (.d (.str [45]))),(4,1,.c (.d (.str [61]))),(5,1,.c (.d (.str [33,61]))),(6,1,.c (.d (.str [60]))),(7,1,.c (.d (.str [60,61]))),(8,1,.c (.d (.str [33]))),(9,1,.c (.d (.str [38]))),(10,1,.c (.d (.str [124]))),(11,1,.c (.d (.str [61,62]))),(12,1,.c (.d (.str [60,61,62])))],alloc 3 zoa,su 13 3 4] (seq (sr [mt 5 0,bi 6 .lss 5 6,mt 7 6,(gf 7,mt 8 0),(gf 7,bi 9 .sub 8 6),(gf 7,bi 10 .geq 9 13),ou 11 7 10] (ci 11 (rr [mv 2 (.c (.d (.str [])))]))) (rr [mt 12 0,bi 13 .sub 12 6,aad 14 13 1 (t 3) (t 13),lf 15 1 14,mt 2 15]))),[.t 2]⟩
def zWl:bL:=⟨16,sr [mv 2 (.c (.d (.str [])))] (sr [bsl 4 1 [.c (.d (.str [43])),.c (.d (.str [45])),.c (.d (.str [42])),.c (.d (.str [45])),.c (.d (.str [61])),.c (.d (.str [33,61])),.c (.d (.str [60])),.c (.d (.str [60,61])),.c (.d (.str [33])),.c (.d (.str [38])),.c (.d (.str [124])),.c (.d (.str [61,62])),.c (.d (.str [60,61,62]))],mt 3 4] (seq (sr [mt 5 0,bi 6 .lss 5 6,mt 7 6,(gf 7,mt 8 0),(gf 7,bi 9 .gtr 8 18),ou 10 7 9] (ci 10 (rr [mv 2 (.c (.d (.str [])))]))) (rr [mt 11 3,mt 12 0,bi 13 .sub 12 6,ix 14 1 11 13,lf 15 1 14,mt 2 15]))),[.t 2]⟩
def zwN:bL:=⟨34,sr [mv 2 (.c (.d (.str [])))] (seq (sr [mt 3 0,bi 4 .lss 3 0] (ci 4 (seq (sr [mt 5 0,bq 6 .gtr 5 (-10:Int)] (ci 6 (rr [mt 7 0,bin 8 .sub (0:Int) (t 7),ka 9 HI 8,bin 10 .add (.c (.d (.str [45]))) (t 9),mt 2 10]))) (rr [mt 11 0,bi 12 .quo 11 10,bin 13 .sub (0:Int) (t 12),ka 14 HI 13,bin 15 .add (.c (.d (.str [45]))) (t 14),mt 16 0,bi 17 .rem 16 10,bin 18 .sub (0:Int) (t 17),ka 19 HI 18,bt 20 .add 15 19,mt 2 20])))) (seq (sr [mt 21 0,bi 22 .lss 21 10] (ci 22 (rr [mt 23 0,mt 24 0,bi 25 .add 24 1,sto 26 (.c (.d (.str [48,49,50,51,52,53,54,55,56,57]))) (t 23) (t 25),mt 2 26]))) (rr [mt 27 0,bi 28 .quo 27 10,ka 29 HI 28,mt 30 0,bi 31 .rem 30 10,ka 32 HI 31,bt 33 .add 29 32,mt 2 33]))),[.t 2]⟩
def zju:AC:=sr [bt 10 .lss 9 8] (seq (cn 10 skip (exit 0)) (seq (block 1 (sr [ix 11 4 7 9,lg 12 4 11,alloc 5 du,su 4 5 12] (cD [mt 13 3,lg 14 4 5,ka 15 VX 14,max 16 (t 13) (t 15),mt 3 16]))) (cD [bi 17 .add 9 1,mt 9 17])))
def zV5:bL:=⟨20,sr [box 1 (t 0),mi 2 0] (sr [mi 3 0] (seq (sr [ft 6 3 1,lf 7 1 6,ln 8 7,mi 9 0] (block 0 (loop zju))) (rr [mt 18 3,bi 19 .add 18 1,mt 2 19]))),[.t 2]⟩
def zqn:AC:=sr [bt 16 .lss 15 14] (seq (cn 16 skip (exit 0)) (seq (block 1 (sr [ix 17 4 13 15,lg 18 4 17,alloc 5 du,su 4 5 18] (sr [lg 19 4 5,ka 20 VU 19,mt 6 20] (sr [mt 21 6,bi 22 .neq 21 0] (ci 22 (rr [mt 23 6,mt 2 23])))))) (cD [bi 24 .add 15 1,mt 15 24])))
def zQx:bL:=⟨25,sr [box 1 (t 0),mi 2 0] (seq (sr [lg 7 4 1,ka 8 zXB 7,mt 3 8] (sr [mt 9 3,bi 10 .neq 9 0] (ci 10 (rr [mt 11 3,mt 2 11])))) (seq (sr [ft 12 3 1,lf 13 1 12,ln 14 13,mi 15 0] (block 0 (loop zqn))) (rr [mi 2 0]))),[.t 2]⟩
def zXP:bL:=⟨11,sr [box 3 (t 0),mv 6 false] (rr [mt 7 1,mt 8 2,mkf 9 Ea [t 3],kc 10 Lv [t 7,t 8,t 9],mt 6 10]),[.t 6]⟩
def zqS:bL:=⟨27,sr [box 3 (t 0),box 4 (t 1),box 5 (t 2),alloc 6 du] (seq (sr [lg 10 3 3,lg 11 4 4,kb 12 rF 10 11,mt 9 12,eu 13 9 0,eu 14 9 1,mt 7 13,mt 8 14] (sr [mt 15 8,bi 16 .eql 15 0,mt 17 16,(gt 17,mt 18 7),(gt 17,bq 19 .eql 18 (.c (.d (.str [66,111,111,108])))),an 20 17 19] (ci 20 (rr [lg 21 4 4,lg 22 4 5,kc 23 yr [.c (.d (.int .i64 18)),t 21,t 22],su 4 6 23])))) (rr [lg 24 4 4,lg 25 4 5,kc 26 yr [.c (.d (.int .i64 10)),t 24,t 25],su 4 6 26])),[.c 6 true 4]⟩
def zQj:bL:=⟨12,sr [box 4 (t 1),box 5 (t 2),alloc 6 du] (rr [mt 7 0,lg 8 4 4,lg 9 4 5,bsl 10 4 [t 8,t 9],build 11 du [(0,1,t 7),(3,1,t 10)],su 4 6 11]),[.c 6 true 4]⟩
def Uk:AC:=sr [bt 11 .lss 10 9] (seq (cn 11 skip (exit 0)) (seq (block 1 (sr [ix 12 4 8 10,lg 13 4 12,alloc 6 du,su 4 6 13] (block 2 (sr [lg 17 4 6,ka 18 Kz 17,mt 16 18] (cn 16 (exit 1) (seq (cm [lg 20 4 6,kc 21 Eb [.c (.d (.bool false))],kb 22 tN 20 21,mt 19 22]) (cn 19 (rr [kc 23 Eb [.c (.d (.bool false))],su 4 2 23]) (sr [mt 25 4,mt 24 25] (cn 24 (cm [lg 26 4 3,lg 27 4 6,ka 28 D6 27,bsl 29 4 [t 26,t 28],build 30 du [(0,1,.c (.d (.int .i64 15))),(3,1,t 29)],su 4 3 30]) (cD [lg 14 4 6,ka 15 D6 14,su 4 3 15,mv 4 true])))))))))) (cD [bi 31 .add 10 1,mt 10 31])))
def zQm:bL:=⟨33,sr [alloc 2 du] (sr [kc 7 Eb [.c (.d (.bool true))],alloc 3 du,su 4 3 7,mv 4 false] (seq (sr [mt 8 0,ln 9 8,mi 10 0] (block 0 (loop Uk))) (rr [lg 32 4 3,su 4 2 32]))),[.c 2 true 4]⟩
def yw6:bL:=⟨17,sr [box 2 (t 0),box 3 (t 1),mv 4 (.c (.d (.str []))),mi 5 0] (sr [lg 7 4 3,ka 8 zvF 7,mt 6 8] (seq (sr [mt 9 6,bi 10 .neq 9 0] (ci 10 (rr [mt 11 6,mv 4 (.c (.d (.str []))),mt 5 11]))) (rr [lg 12 3 2,lg 13 4 3,kb 14 Vy 12 13,eu 15 14 0,eu 16 14 1,mt 4 15,mt 5 16]))),[.t 4,.t 5]⟩
def zYL:bL:=⟨27,sr [box 3 (t 0),box 4 (t 1),box 5 (t 2),alloc 6 du] (sr [mi 7 10] (sr [lg 11 3 3,lg 12 4 4,kb 13 NP 11 12,mt 10 13,eu 14 10 0,eu 15 10 1,mt 8 14,mt 9 15] (seq (sr [mt 16 9,bi 17 .eql 16 0,mt 18 17,(gt 18,mt 19 8),(gt 18,bq 20 .eql 19 (.c (.d (.str [66,111,111,108])))),an 21 18 20] (ci 21 (cD [mi 7 18]))) (rr [mt 22 7,lg 23 4 4,lg 24 4 5,bsl 25 4 [t 23,t 24],build 26 du [(0,1,t 22),(3,1,t 25)],su 4 6 26])))),[.c 6 true 4]⟩
def zZA:AC:=sr [bt 10 .lss 9 8] (seq (cn 10 skip (exit 0)) (seq (block 1 (sr [ix 11 4 7 9,lg 12 4 11,alloc 5 du,su 4 5 12] (seq (seq (cm [lg 13 4 5,kc 14 VY [],kb 15 Lk 13 14]) (ci 15 (rr [kc 16 VY [],su 4 2 16]))) (seq (sr [lg 17 4 5,ka 18 VT 17] (ci 18 (exit 1))) (sr [lg 19 4 3,ka 20 VT 19] (cn 20 (cD [lg 21 4 5,su 4 3 21]) (cD [lg 22 4 3,lg 23 4 5,bsl 24 4 [t 22,t 23],build 25 du [(0,1,.c (.d (.int .i64 15))),(3,1,t 24)],su 4 3 25]))))))) (cD [bi 26 .add 9 1,mt 9 26])))
def yyt:bL:=⟨28,sr [alloc 2 du] (sr [kc 6 VS [],alloc 3 du,su 4 3 6] (seq (sr [mt 7 0,ln 8 7,mi 9 0] (block 0 (loop zZA))) (rr [lg 27 4 3,su 4 2 27]))),[.c 2 true 4]⟩
def Uc:AC:=sr [bt 15 .lss 14 13] (seq (cn 15 skip (exit 0)) (seq (block 1 (sr [ix 16 4 12 14,lg 17 4 16,alloc 8 du,su 4 8 17] (sr [lf 19 1 1,lg 20 4 8,call (some 21) (t 19) [t 20],mt 18 21,eu 22 18 0,eu 23 18 1,mt 9 22,mt 10 23] (seq (sr [mt 24 10,bi 25 .neq 24 0] (ci 25 (rr [mt 26 10,mv 4 (.c (.d (.str []))),mt 5 26]))) (cD [mt 27 6,mt 28 9,bsl 29 1 [t 28],ap 30 1 16 27 29,mt 6 30]))))) (cD [bi 31 .add 14 1,mt 14 31])))
def zYN:bL:=⟨38,sr [box 3 (t 0),mv 4 (.c (.d (.str []))),mi 5 0] (sr [mv 6 (.c (.full []))] (seq (sr [ft 11 3 3,lf 12 1 11,ln 13 12,mi 14 0] (block 0 (loop Uc))) (rr [lg 32 3 2,lg 33 4 3,mt 34 6,kc 35 KW [t 32,t 33,t 34],eu 36 35 0,eu 37 35 1,mt 4 36,mt 5 37]))),[.t 4,.t 5]⟩
def zYO:bL:=⟨57,sr [box 3 (t 0),box 4 (t 1),mv 6 (.c (.d (.str []))),mi 7 0] (seq (sr [ft 11 0 4,lf 12 1 11] (block 0 (sr [bi 14 .eql 12 1,mt 13 14] (cn 13 (rr [mv 6 (.c (.d (.str [73,110,116]))),mi 7 0]) (sr [bi 16 .eql 12 2,mt 15 16] (cn 15 (rr [mv 6 (.c (.d (.str [66,111,111,108]))),mi 7 0]) (sr [bi 18 .eql 12 3,mt 17 18] (cn 17 (sr [lg 20 3 3,ft 21 1 4,lf 22 1 21,kb 23 Kr 20 22,mt 19 23,eu 24 19 0,eu 25 19 1,mt 8 24,mt 9 25] (seq (sr [mt 26 9,nu 27 26] (ci 27 (rr [mv 6 (.c (.d (.str []))),mi 7 5]))) (rr [mt 28 8,mt 6 28,mi 7 0]))) (sr [bi 30 .eql 12 4,mt 29 30] (cn 29 (rr [lg 31 3 3,ft 32 1 4,lf 33 1 32,mt 34 2,kc 35 Lj [t 31,t 33,t 34],eu 36 35 0,eu 37 35 1,mt 6 36,mt 7 37]) (sr [bi 39 .eql 12 5,mt 38 39] (ci 38 (rr [lg 40 3 3,ft 41 1 4,lf 42 1 41,mt 43 2,kc 44 Lh [t 40,t 42,t 43],eu 45 44 0,eu 46 44 1,mt 6 45,mt 7 46]))))))))))))) (sr [ft 47 0 4,lf 48 1 47,ka 49 Li 48,alloc 10 Hg,su 2 10 49] (seq (sr [ft 50 0 10,lf 51 1 50,mt 52 2,call (some 53) (t 51) [t 52],nu 54 53] (ci 54 (rr [mv 6 (.c (.d (.str []))),mi 7 11]))) (rr [ft 55 1 10,lf 56 1 55,mt 6 56,mi 7 0])))),[.t 6,.t 7]⟩
def Uu:AC:=sr [bt 10 .lss 9 8] (seq (cn 10 skip (exit 0)) (seq (block 1 (sr [ix 11 4 7 9,lg 12 4 11,alloc 5 du,su 4 5 12] (cD [mt 13 3,lg 14 4 5,ka 15 Hp 14,bt 16 .add 13 15,mt 3 16]))) (cD [bi 17 .add 9 1,mt 9 17])))
def zKg:bL:=⟨19,sr [box 1 (t 0),mi 2 0] (sr [mi 3 1] (seq (sr [ft 6 3 1,lf 7 1 6,ln 8 7,mi 9 0] (block 0 (loop Uu))) (rr [mt 18 3,mt 2 18]))),[.t 2]⟩
def Ut:AC:=sr [bt 10 .lss 9 8] (seq (cn 10 skip (exit 0)) (seq (block 1 (sr [ix 11 4 7 9,lg 12 4 11,alloc 5 du,su 4 5 12] (cD [mt 13 3,lg 14 4 5,ka 15 Ho 14,max 16 (t 13) (t 15),mt 3 16]))) (cD [bi 17 .add 9 1,mt 9 17])))
def zKe:bL:=⟨20,sr [box 1 (t 0),mi 2 0] (sr [mi 3 0] (seq (sr [ft 6 3 1,lf 7 1 6,ln 8 7,mi 9 0] (block 0 (loop Ut))) (rr [mt 18 3,bi 19 .add 18 1,mt 2 19]))),[.t 2]⟩
def zXX:bL:=⟨4,sr [box 1 (t 0),mv 2 (.c (.d (.oB)))] (rr [mkf 3 AF [t 1],mt 2 3]),[.t 2]⟩
def zVX:bL:=⟨130,sr [box 1 (t 0),mi 2 0] (seq (sr [ft 7 0 1,lf 8 1 7,bi 9 .lss 8 1,mt 10 9,(gf 10,ft 11 0 1),(gf 10,lf 12 1 11),(gf 10,bi 13 .gtr 12 18),ou 14 10 13] (ci 14 (rr [mi 2 1]))) (sr [ft 16 0 1,lf 17 1 16,ka 18 Ky 17,mt 15 18,eu 19 15 0,eu 20 15 1,mt 3 19,mt 4 20] (seq (sr [(none,ft 21 0 1),(none,lf 22 1 21),(none,.call (some 23) Hq [t 22]),(none,nu 24 23),(none,mt 25 24),(gt 25,ft 26 1 1),(gt 25,lf 27 1 26),(gt 25,bq 28 .neq 27 (.c (.d (.str [])))),(none,an 29 25 28),(none,mt 30 29),(gf 30,ft 31 0 1),(gf 30,lf 32 1 31),(gf 30,bi 33 .neq 32 1),(gf 30,mt 34 33),(gt 34,ft 35 0 1),(gt 34,lf 36 1 35),(gt 34,bi 37 .neq 36 2),(gf 30,an 38 34 37),(gf 30,mt 39 38),(gt 39,ft 40 2 1),(gt 39,lf 41 1 40),(gt 39,bi 42 .neq 41 0),(gf 30,an 43 39 42),(none,ou 44 30 43),(none,mt 45 44),(gf 45,ft 46 3 1),(gf 45,lf 47 1 46),(gf 45,ln 48 47),(gf 45,mt 49 3),(gf 45,bt 50 .lss 48 49),(none,ou 51 45 50),(none,mt 52 51),(gf 52,ft 53 3 1),(gf 52,lf 54 1 53),(gf 52,ln 55 54),(gf 52,mt 56 4),(gf 52,bt 57 .gtr 55 56),(none,ou 58 52 57)] (ci 58 (rr [mi 2 1]))) (seq (sr [ft 59 0 1,lf 60 1 59,bi 61 .eql 60 1,mt 62 61,(gt 62,ft 63 2 1),(gt 62,lf 64 1 63),(gt 62,.call (some 65) vo [t 64]),(gt 62,nu 66 65),an 67 62 66,mt 68 67,(gf 68,ft 69 0 1),(gf 68,lf 70 1 69),(gf 68,bi 71 .eql 70 2),(gf 68,mt 72 71),(gt 72,ft 73 2 1),(gt 72,lf 74 1 73),(gt 72,bi 75 .neq 74 0),(gf 68,an 76 72 75),(gf 68,mt 77 76),(gt 77,ft 78 2 1),(gt 77,lf 79 1 78),(gt 77,bi 80 .neq 79 1),(gf 68,an 81 77 80),ou 82 68 81] (ci 82 (rr [mi 2 2]))) (seq (sr [ft 83 0 1,lf 84 1 83,ka 85 Hq 84,mt 86 85,(gt 86,ft 87 1 1),(gt 86,lf 88 1 87),(gt 86,.call (some 89) KG [t 88]),(gt 86,bi 90 .neq 89 0),an 91 86 90] (ci 91 (sr [ft 92 0 1,lf 93 1 92,bi 94 .eql 93 3,mt 95 94,(gt 95,ft 96 1 1),(gt 95,lf 97 1 96),(gt 95,bq 98 .eql 97 (.c (.d (.str [118])))),an 99 95 98,mt 5 99] (sr [ft 100 0 1,lf 101 1 100,bi 102 .eql 101 4,mt 103 102,(gt 103,ft 104 1 1),(gt 103,lf 105 1 104),(gt 103,bq 106 .eql 105 (.c (.d (.str [116,97,103])))),(gt 103,mt 107 106),(gf 107,ft 108 1 1),(gf 107,lf 109 1 108),(gf 107,bq 110 .eql 109 (.c (.d (.str [118,97,108])))),(gt 103,ou 111 107 110),an 112 103 111,mt 6 112] (sr [mt 113 5,nu 114 113,mt 115 114,(gt 115,mt 116 6),(gt 115,nu 117 116),an 118 115 117] (ci 118 (rr [mi 2 3]))))))) (seq (sr [ft 119 0 1,lf 120 1 119,bi 121 .eql 120 8,mt 122 121,(gt 122,ft 123 3 1),(gt 122,lf 124 1 123),(gt 122,.idx 125 4 (t 124) (0:Int)),(gt 122,ft 126 0 125),(gt 122,lf 127 1 126),(gt 122,bi 128 .neq 127 1),an 129 122 128] (ci 129 (rr [mi 2 6]))) (rr [mi 2 0]))))))),[.t 2]⟩
def zVV:bL:=⟨31,sr [box 2 (t 0),box 3 (t 1),mv 4 false] (rr [ft 5 0 2,lf 6 1 5,ft 7 0 3,lf 8 1 7,bt 9 .eql 6 8,mt 10 9,(gt 10,ft 11 1 2),(gt 10,lf 12 1 11),(gt 10,ft 13 1 3),(gt 10,lf 14 1 13),(gt 10,bt 15 .eql 12 14),an 16 10 15,mt 17 16,(gt 17,ft 18 2 2),(gt 17,lf 19 1 18),(gt 17,ft 20 2 3),(gt 17,lf 21 1 20),(gt 17,bt 22 .eql 19 21),an 23 17 22,mt 24 23,(gt 24,ft 25 3 2),(gt 24,lf 26 1 25),(gt 24,ft 27 3 3),(gt 24,lf 28 1 27),(gt 24,.call (some 29) Lo [t 26,t 28,.c (.d (.clo tN []))]),an 30 24 29,mt 4 30]),[.t 4]⟩
def zKf:bL:=⟨5,sr [box 1 (t 0),mv 2 (.c (.full []))] (rr [lg 3 4 1,kc 4 F1 [t 3,.c (.d (.int .i64 5)),.c (.full [])],mt 2 4]),[.t 2]⟩
def OC:bL:=⟨29,sr [mt 5 0,ln 6 5,bi 7 .gtr 6 0,mt 8 7,(gt 8,lf 9 1 1),(gt 8,.nck 10 (t 9)),(gt 8,ft 11 7 10),(gt 8,lf 12 1 11),(gt 8,nu 13 12),an 14 8 13] (ci 14 (seq (.scope (seq (.pw [15] [lf 15 1 2,lf 16 1 1,mt 17 0,idx 18 4 (t 17) (0:Int),lg 19 4 18,kd 20 CF [t 16,t 19],ln 21 15,bslz 22 4 [.c (.agg du)]]) (sr [ap 23 4 56 15 22] (.alt (sr [ix 24 4 23 21] (.alt (sr [su 4 24 20] (sr [su 1 2 23] skip)) (sr [su 1 2 23] (sr [su 4 24 20] skip)))) (sr [su 1 2 23] (sr [ix 24 4 23 21] (sr [su 4 24 20] skip))))))) (.scope (seq (cm [lf 25 1 3,mt 26 0,lfrom 27 4 (t 26) (1:Int)]) (sr [call (some 28) (t 25) [t 27]] skip))))),[]⟩
def UW:AC:=sr [bt 35 .lss 34 33] (seq (cn 35 skip (exit 1)) (seq (block 2 (sr [ix 36 4 32 34,lg 37 4 36,alloc 7 du,su 4 7 37] (.lL [ft 38 3 5,mt 40 0,lg 41 4 7] (lf 39 1 38) (kd 42 CF [t 40,t 41]) [bsl 43 4 [t 42],ap 44 4 56 39 43,ft 45 3 5,su 1 45 44]))) (cD [bi 46 .add 34 1,mt 34 46])))
def HJ:bL:=⟨48,sr [box 3 (t 1),alloc 4 du] (seq (sr [ft 8 0 3,lf 9 1 8] (block 0 (sr [bi 11 .eql 9 2,mt 10 11] (cn 10 (rr [lg 12 4 3,su 4 4 12]) (seq (sr [bi 14 .eql 9 3,mt 13 14] (cn 13 skip (cD [bi 15 .eql 9 4,mt 13 15]))) (cn 13 (rr [mt 16 0,lg 17 4 3,ka 18 BI 17,kd 19 Lq [t 16,t 18],su 4 4 19]) (seq (sr [bi 21 .eql 9 10,mt 20 21] (cn 20 skip (sr [bi 22 .eql 9 11,mt 20 22] (cn 20 skip (sr [bi 23 .eql 9 12,mt 20 23] (cn 20 skip (cD [bi 24 .eql 9 13,mt 20 24]))))))) (ci 20 (rr [mt 25 0,lg 26 4 3,kd 27 Lu [t 25,t 26],su 4 4 27]))))))))) (sr [ft 28 0 3,lf 29 1 28,build 30 du [(0,1,t 29)],alloc 5 du,su 4 5 30] (seq (sr [ft 31 3 3,lf 32 1 31,ln 33 32,mi 34 0] (block 1 (loop UW))) (rr [lg 47 4 5,su 4 4 47])))),[.c 4 true 4]⟩
def UO:bL:=⟨29,sr [alloc 6 du] (sr [mt 8 0,mt 9 1,kd 10 Bu [t 8,t 9],alloc 7 kE,su 2 7 10] (seq (sr [mt 11 2] (ci 11 (rr [mt 12 0,mt 13 0,lg 14 2 7,build 15 kE [(1,1,.c (.d (.int .i64 (-1))))],kb 16 xY 14 15,eu 17 16 0,eu 18 16 1,kd 19 uX [t 13,t 17,t 18],kd 20 CG [t 12,t 19],su 4 6 20]))) (rr [mt 21 0,mt 22 0,lg 23 2 7,kc 24 Bs [t 23,.c (.d (.int .i64 (-1)))],eu 25 24 0,eu 26 24 1,kd 27 uX [t 22,t 25,t 26],kd 28 CG [t 21,t 27],su 4 6 28]))),[.c 6 true 4]⟩
def zQA:bL:=⟨20,sr [box 2 (t 0),box 3 (t 1),mi 4 0] (seq (sr [lg 7 4 3,ka 8 VV 7] (ci 8 (rr [mi 4 0]))) (sr [lg 10 3 2,lg 11 4 3,kb 12 NP 10 11,mt 9 12,eu 13 9 0,eu 14 9 1,mt 5 13,mt 6 14] (seq (sr [mt 15 6,bi 16 .neq 15 0] (ci 16 (rr [mt 17 6,mt 4 17]))) (seq (sr [mt 18 5,bq 19 .neq 18 (.c (.d (.str [66,111,111,108])))] (ci 19 (rr [mi 4 11]))) (rr [mi 4 0]))))),[.t 4]⟩
def zV7:bL:=⟨5,sr [box 1 (t 0),mv 2 (.c (.full []))] (rr [lg 3 4 1,kc 4 UJ [t 3,.c (.d (.int .i64 5)),.c (.full [])],mt 2 4]),[.t 2]⟩
def zQC:bL:=⟨22,sr [box 1 (t 0),mv 2 false] (rr [ft 3 0 1,lf 4 1 3,bi 5 .eql 4 0,mt 6 5,(gt 6,ft 7 1 1),(gt 6,lf 8 1 7),(gt 6,bq 9 .eql 8 (.c (.d (.str [])))),an 10 6 9,mt 11 10,(gt 11,ft 12 2 1),(gt 11,lf 13 1 12),(gt 11,bi 14 .eql 13 0),an 15 11 14,mt 16 15,(gt 16,ft 17 3 1),(gt 16,lf 18 1 17),(gt 16,ln 19 18),(gt 16,bi 20 .eql 19 0),an 21 16 20,mt 2 21]),[.t 2]⟩
def Pn:bL:=⟨91,sr [box 3 (t 1),alloc 4 du] (seq (sr [ft 6 0 3,lf 7 1 6] (block 0 (sr [bi 9 .eql 7 2,mt 8 9] (cn 8 (rr [lg 10 4 3,su 4 4 10]) (seq (sr [bi 12 .eql 7 3,mt 11 12] (cn 11 skip (cD [bi 13 .eql 7 4,mt 11 13]))) (cn 11 (rr [mt 14 0,lg 15 4 3,kd 16 zy2 [t 14,t 15],su 4 4 16]) (seq (sr [bi 18 .eql 7 14,mt 17 18] (cn 17 skip (sr [bi 19 .eql 7 15,mt 17 19] (cn 17 skip (sr [bi 20 .eql 7 16,mt 17 20] (cn 17 skip (sr [bi 21 .eql 7 17,mt 17 21] (cn 17 skip (cD [bi 22 .eql 7 18,mt 17 22]))))))))) (cn 17 (seq (.lL [ft 23 0 3,mt 25 0,ft 26 3 3,lf 27 1 26] (lf 24 1 23) (kd 28 Wa [t 25,t 27]) [build 29 du [(0,1,t 24),(3,1,t 28)],su 4 4 29]) ret) (seq (sr [bi 31 .eql 7 10,mt 30 31] (cn 30 skip (cD [bi 32 .eql 7 11,mt 30 32]))) (cn 30 (sr [build 33 du [],alloc 5 du,su 4 5 33] (seq (sr [mt 34 0,ft 35 3 3,lf 36 1 35,idx 37 4 (t 36) (0:Int),lg 38 4 37,kd 39 zxv [t 34,t 38],bq 40 .eql 39 (.c (.d (.str [66,111,111,108])))] (cn 40 (cD [mt 41 0,ft 42 3 3,lf 43 1 42,kd 44 Wa [t 41,t 43],build 45 du [(0,1,.c (.d (.int .i64 18))),(3,1,t 44)],su 4 5 45]) (cm [mt 46 0,mt 47 0,ft 48 3 3,lf 49 1 48,idx 50 4 (t 49) (0:Int),lg 51 4 50,ft 52 3 3,lf 53 1 52,idx 54 4 (t 53) (1:Int),lg 55 4 54,kd 56 UX [t 47,t 51,t 55],kd 57 Wb [t 46,t 56],su 4 5 57]))) (seq (sr [ft 58 0 3,lf 59 1 58,bi 60 .eql 59 11] (ci 60 (rr [lg 61 4 5,bsl 62 4 [t 61],kc 63 H8 [.c (.d (.int .i64 14)),t 62],su 4 4 63]))) (rr [lg 64 4 5,su 4 4 64])))) (sr [bi 66 .eql 7 13,mt 65 66] (ci 65 (seq (cm [mt 67 0,mt 68 0,ft 69 3 3,lf 70 1 69,idx 71 4 (t 70) (0:Int),lg 72 4 71,ft 73 3 3,lf 74 1 73,idx 75 4 (t 74) (1:Int),lg 76 4 75,kd 77 UX [t 68,t 72,t 76],kd 78 OD [t 67,t 77],su 4 4 78]) ret))))))))))))) (seq (cm [mt 79 0,mt 80 0,ft 81 3 3,lf 82 1 81,idx 83 4 (t 82) (0:Int),lg 84 4 83,ft 85 3 3,lf 86 1 85,idx 87 4 (t 86) (1:Int),lg 88 4 87,kd 89 UX [t 80,t 84,t 88],kd 90 zxu [t 79,t 89],su 4 4 90]) ret)),[.c 4 true 4]⟩
def zkF:bL:=⟨36,sr [box 3 (t 1),alloc 4 du] (seq (sr [ft 8 0 3,lf 9 1 8,ln 10 9,bi 11 .eql 10 0] (ci 11 (rr [ft 12 1 3,lf 13 1 12,bi 14 .leq 13 0,ka 15 Pe 14,su 4 4 15]))) (sr [lg 17 2 3,ka 18 Um 17,mt 16 18,eu 19 16 0,eu 20 16 1,alloc 5 kE,su 2 5 19,mt 6 20] (sr [mt 21 0,lg 22 2 5,kd 23 OE [t 21,t 22],mt 7 23] (seq (sr [mt 24 6,bi 25 .eql 24 1] (ci 25 (rr [mt 26 7,kc 27 La [.c (.d (.int .i64 13)),t 26],su 4 4 27]))) (rr [mt 28 7,kc 29 La [.c (.d (.int .i64 13)),t 28],bsl 30 4 [t 29],kc 31 H8 [.c (.d (.int .i64 14)),t 30],mt 32 7,kc 33 La [.c (.d (.int .i64 10)),t 32],bsl 34 4 [t 31,t 33],kc 35 H8 [.c (.d (.int .i64 16)),t 34],su 4 4 35]))))),[.c 4 true 4]⟩
def yyA:bL:=⟨15,sr [box 3 (t 0),alloc 6 kE] (rr [lg 7 4 3,ka 8 Pg 7,fld 9 1 1 false (t 8),mt 10 1,build 11 nO [(0,1,t 9),(1,1,t 10)],bsl 12 2 [t 11],mt 13 2,build 14 kE [(0,1,t 12),(1,1,t 13)],su 2 6 14]),[.c 6 true 2]⟩
def zYv:bL:=⟨4,sr [mi 2 0] (seq (sr [mt 3 0] (ci 3 (rr [mi 2 1]))) (rr [mi 2 0])),[.t 2]⟩
def KX:bL:=⟨84,sr [box 2 (t 0),mi 4 0,mv 5 false] (seq (seq (cm [ft 8 3 2,lf 9 1 8,ln 10 9,bi 11 .neq 10 2,mt 12 11,(gf 12,ft 13 3 2),(gf 12,lf 14 1 13),(gf 12,.idx 15 4 (t 14) (0:Int)),(gf 12,lg 16 4 15),(gf 12,ft 17 3 2),(gf 12,lf 18 1 17),(gf 12,.idx 19 4 (t 18) (0:Int)),(gf 12,ft 20 1 19),(gf 12,lf 21 1 20),(gf 12,.build 22 du [(0,1,.c (.d (.int .i64 3))),(1,1,t 21)]),(gf 12,.call (some 23) tN [t 16,t 22]),(gf 12,nu 24 23),ou 25 12 24,mt 26 25,(gf 26,ft 27 3 2),(gf 26,lf 28 1 27),(gf 26,.idx 29 4 (t 28) (1:Int)),(gf 26,lg 30 4 29),(gf 26,.build 31 du [(0,1,.c (.d (.int .i64 1)))]),(gf 26,.call (some 32) tN [t 30,t 31]),(gf 26,nu 33 32),ou 34 26 33]) (ci 34 (rr [mi 4 0,mv 5 false]))) (sr [ft 36 3 2,lf 37 1 36,idx 38 4 (t 37) (0:Int),ft 39 1 38,lf 40 1 39,ka 41 strconv_Atoi 40,mt 35 41,eu 42 35 0,eu 43 35 1,mt 6 42,mt 7 43] (seq (seq (cm [(none,mt 44 7),(none,.ieq 45 true (t 44)),(none,mt 46 45),(gf 46,mt 47 6),(gf 46,.call (some 48) strconv_Itoa [t 47]),(gf 46,ft 49 3 2),(gf 46,lf 50 1 49),(gf 46,.idx 51 4 (t 50) (0:Int)),(gf 46,ft 52 1 51),(gf 46,lf 53 1 52),(gf 46,bt 54 .neq 48 53),(none,ou 55 46 54),(none,mt 56 55),(gf 56,mt 57 6),(gf 56,bi 58 .lss 57 0),(none,ou 59 56 58),(none,mt 60 59),(gf 60,mt 61 6),(gf 60,mt 62 1),(gf 60,ln 63 62),(gf 60,bt 64 .geq 61 63),(none,ou 65 60 64),(none,mt 66 65),(gf 66,mt 67 1),(gf 66,mt 68 6),(gf 66,ix 69 1 67 68),(gf 66,lf 70 1 69),(gf 66,bq 71 .lss 70 (-1:Int)),(none,ou 72 66 71),(none,mt 73 72),(gf 73,mt 74 1),(gf 73,mt 75 6),(gf 73,ix 76 1 74 75),(gf 73,lf 77 1 76),(gf 73,bi 78 .gtr 77 1),(none,ou 79 73 78)]) (ci 79 (rr [mi 4 0,mv 5 false]))) (rr [mt 80 1,mt 81 6,ix 82 1 80 81,lf 83 1 82,mt 4 83,mv 5 true])))),[.t 4,.t 5]⟩
def zZ3:bL:=⟨8,sr [mi 2 0] (seq (sr [mt 3 0,bi 4 .lss 3 0] (ci 4 (rr [mt 5 0,mt 2 5]))) (rr [mt 6 0,bin 7 .sub (1:Int) (t 6),mt 2 7])),[.t 2]⟩
def zW6:bL:=⟨17,sr [mi 4 0] (seq (sr [mt 5 0,bi 6 .eql 5 0,mt 7 6,(gf 7,mt 8 1),(gf 7,bi 9 .eql 8 0),ou 10 7 9] (ci 10 (rr [mi 4 0]))) (seq (sr [mt 11 0,bi 12 .eql 11 1,mt 13 12,(gt 13,mt 14 1),(gt 13,bi 15 .eql 14 1),an 16 13 15] (ci 16 (rr [mi 4 1]))) (rr [mv 4 (-1:Int)]))),[.t 4]⟩
def zVN:bL:=⟨60,sr [box 2 (t 0),alloc 4 xV,mv 5 false] (sr [build 13 kE [(1,1,.c (.d (.int .i64 1)))],alloc 6 kE,su 2 6 13] (seq (sr [mt 14 1] (block 0 (sr [bq 16 .eql 14 (-1:Int),mt 15 16] (cn 15 (sr [lg 18 2 2,lg 19 2 6,kb 20 xY 18 19,mt 17 20,eu 21 17 0,eu 22 17 1,alloc 7 kE,su 2 7 21,mt 8 22] (rr [lg 23 2 7,build 24 xV [(0,2,t 23)],ka 25 F6 24,mt 26 8,su 3 4 25,mt 5 26])) (sr [bi 28 .eql 14 0,mt 27 28] (cn 27 (sr [lg 30 2 2,build 31 kE [],kb 32 xY 30 31,mt 29 32,eu 33 29 0,eu 34 29 1,alloc 9 kE,su 2 9 33,mt 10 34] (rr [lg 35 2 9,build 36 xV [(0,2,t 35),(2,1,.c (.d (.bool true)))],ka 37 F6 36,mt 38 10,su 3 4 37,mt 5 38])) (sr [bi 40 .eql 14 1,mt 39 40] (ci 39 (sr [lg 42 2 2,kc 43 Bs [t 42,.c (.d (.int .i64 (-1)))],mt 41 43,eu 44 41 0,eu 45 41 1,alloc 11 kE,su 2 11 44,mt 12 45] (seq (sr [mt 46 12,nu 47 46] (ci 47 (rr [build 48 xV [],su 3 4 48,mv 5 false]))) (sr [lg 50 2 11,lg 51 2 6,kb 52 xY 50 51,mt 49 52,eu 53 49 0,eu 54 49 1,su 2 11 53,mt 12 54] (rr [lg 55 2 11,build 56 xV [(0,2,t 55)],ka 57 F6 56,mt 58 12,su 3 4 57,mt 5 58])))))))))))) (rr [build 59 xV [],su 3 4 59,mv 5 false]))),[.c 4 true 3,.t 5]⟩
def Pj:AC:=seq (sr [mt 25 7,ft 26 0 2,lf 27 1 26,ln 28 27,bt 29 .lss 25 28,mt 30 29,(gf 30,mt 31 8),(gf 30,ft 32 0 3),(gf 30,lf 33 1 32),(gf 30,ln 34 33),(gf 30,bt 35 .lss 31 34),ou 36 30 35] (cn 36 skip (exit 0))) (block 1 (block 2 (seq (cm [mt 70 8,ft 71 0 3,lf 72 1 71,ln 73 72,bt 74 .eql 70 73,mt 75 74,(gf 75,mt 76 7),(gf 75,ft 77 0 2),(gf 75,lf 78 1 77),(gf 75,ln 79 78),(gf 75,bt 80 .lss 76 79),(gf 75,mt 81 80),(gt 81,ft 82 0 2),(gt 81,lf 83 1 82),(gt 81,mt 84 7),(gt 81,ix 85 2 83 84),(gt 81,ft 86 0 85),(gt 81,lf 87 1 86),(gt 81,ft 88 0 3),(gt 81,lf 89 1 88),(gt 81,mt 90 8),(gt 81,ix 91 2 89 90),(gt 81,ft 92 0 91),(gt 81,lf 93 1 92),(gt 81,bt 94 .lss 87 93),(gf 75,an 95 81 94),ou 96 75 95,mt 69 96]) (cn 69 (seq (cm [ft 97 0 6,lf 98 1 97,ft 99 0 2,lf 100 1 99,mt 101 7,ix 102 2 100 101,lg 103 2 102,bsl 104 2 [t 103],ap 105 2 24 98 104,ft 106 0 6,su 1 106 105]) (cD [mt 107 7,bi 108 .add 107 1,mt 7 108])) (seq (cm [mt 110 7,ft 111 0 2,lf 112 1 111,ln 113 112,bt 114 .eql 110 113,mt 115 114,(gf 115,ft 116 0 3),(gf 115,lf 117 1 116),(gf 115,mt 118 8),(gf 115,ix 119 2 117 118),(gf 115,ft 120 0 119),(gf 115,lf 121 1 120),(gf 115,ft 122 0 2),(gf 115,lf 123 1 122),(gf 115,mt 124 7),(gf 115,ix 125 2 123 124),(gf 115,ft 126 0 125),(gf 115,lf 127 1 126),(gf 115,bt 128 .lss 121 127),ou 129 115 128,mt 109 129]) (cn 109 (seq (cm [ft 130 0 6,lf 131 1 130,ft 132 0 3,lf 133 1 132,mt 134 8,ix 135 2 133 134,lg 136 2 135,bsl 137 2 [t 136],ap 138 2 24 131 137,ft 139 0 6,su 1 139 138]) (cD [mt 140 8,bi 141 .add 140 1,mt 8 141])) (seq (cm [ft 37 0 2,lf 38 1 37,mt 39 7,ix 40 2 38 39,ft 41 1 40,lf 42 1 41,ft 43 0 3,lf 44 1 43,mt 45 8,ix 46 2 44 45,ft 47 1 46,lf 48 1 47,bt 49 .add 42 48,mt 9 49]) (seq (sr [mt 50 9,bi 51 .neq 50 0] (ci 51 (cm [ft 52 0 6,lf 53 1 52,ft 54 0 2,lf 55 1 54,mt 56 7,ix 57 2 55 56,ft 58 0 57,lf 59 1 58,mt 60 9,build 61 nO [(0,1,t 59),(1,1,t 60)],bsl 62 2 [t 61],ap 63 2 24 53 62,ft 64 0 6,su 1 64 63]))) (sr [mt 65 7,bi 66 .add 65 1,mt 7 66] (cD [mt 67 8,bi 68 .add 67 1,mt 8 68]))))))))))
def yyx:bL:=⟨146,sr [box 2 (t 0),box 3 (t 1),alloc 4 kE,mv 5 false] (seq (sr [lg 10 2 2,ka 11 Ia 10,bi 12 .neq 11 0,mt 13 12,(gf 13,lg 14 2 3),(gf 13,.call (some 15) Ia [t 14]),(gf 13,bi 16 .neq 15 0),ou 17 13 16] (ci 17 (rr [build 18 kE [],su 2 4 18,mv 5 false]))) (sr [ft 19 1 2,lf 20 1 19,ft 21 1 3,lf 22 1 21,bt 23 .add 20 22,build 24 kE [(1,1,t 23)],alloc 6 kE,su 2 6 24] (sr [mi 7 0,mi 8 0] (seq (block 0 (loop Pj)) (rr [lg 142 2 6,ka 143 zZi 142,eu 144 143 0,eu 145 143 1,su 2 4 144,mt 5 145]))))),[.c 4 true 2,.t 5]⟩
def zjx:AC:=seq (sr [mt 20 7,ft 21 0 2,lf 22 1 21,ln 23 22,bt 24 .lss 20 23] (cn 24 skip (exit 0))) (seq (block 1 (sr [ft 28 0 2,lf 29 1 28,mt 30 7,ix 31 2 29 30,ft 32 1 31,lf 33 1 32,mt 34 1,kb 35 VJ 33 34,mt 27 35,eu 36 27 0,eu 37 27 1,mt 8 36,mt 9 37] (seq (sr [mt 38 9,nu 39 38] (ci 39 (rr [build 40 kE [],su 2 4 40,mv 5 false]))) (cm [ft 41 0 6,lf 42 1 41,ft 43 0 2,lf 44 1 43,mt 45 7,ix 46 2 44 45,ft 47 0 46,lf 48 1 47,mt 49 8,build 50 nO [(0,1,t 48),(1,1,t 49)],bsl 51 2 [t 50],ap 52 2 24 42 51,ft 53 0 6,su 1 53 52])))) (cD [mt 25 7,bi 26 .add 25 1,mt 7 26]))
def zJb:bL:=⟨70,sr [box 2 (t 0),alloc 4 kE,mv 5 false] (seq (sr [lg 12 2 2,ka 13 Ia 12,bi 14 .neq 13 0] (ci 14 (rr [build 15 kE [],su 2 4 15,mv 5 false]))) (seq (sr [mt 16 1,bi 17 .eql 16 0] (ci 17 (rr [build 18 kE [],su 2 4 18,mv 5 true]))) (sr [build 19 kE [],alloc 6 kE,su 2 6 19] (seq (sr [mi 7 0] (block 0 (loop zjx))) (seq (sr [ft 54 1 2,lf 55 1 54,bi 56 .neq 55 0] (ci 56 (sr [ft 58 1 2,lf 59 1 58,mt 60 1,kb 61 VJ 59 60,mt 57 61,eu 62 57 0,eu 63 57 1,mt 10 62,mt 11 63] (seq (sr [mt 64 11,nu 65 64] (ci 65 (rr [build 66 kE [],su 2 4 66,mv 5 false]))) (cD [mt 67 10,ft 68 1 6,su 1 68 67]))))) (rr [lg 69 2 6,su 2 4 69,mv 5 true])))))),[.c 4 true 2,.t 5]⟩
def zjw:AC:=seq (sr [mt 9 3,ft 10 0 1,lf 11 1 10,ln 12 11,bt 13 .lss 9 12] (cn 13 skip (exit 0))) (seq (block 1 (sr [ft 16 0 1,lf 17 1 16,mt 18 3,ix 19 2 17 18,lg 20 2 19,alloc 4 nO,su 2 4 20] (block 2 (sr [ft 22 0 4,lf 23 1 22,bq 24 .eql 23 (.c (.d (.str []))),mt 25 24,(gf 25,ft 26 0 4),(gf 25,lf 27 1 26),(gf 25,ls 28 27),(gf 25,bi 29 .gtr 28 400),ou 30 25 29,mt 21 30] (cn 21 (rr [mi 2 3]) (sr [ft 32 1 4,lf 33 1 32,bi 34 .eql 33 0,mt 35 34,(gf 35,ft 36 1 4),(gf 35,lf 37 1 36),(gf 35,.call (some 38) NZ [t 37]),(gf 35,nu 39 38),ou 40 35 39,mt 31 40] (cn 31 (rr [mi 2 2]) (seq (cm [mt 42 3,bi 43 .gtr 42 0,mt 44 43,(gt 44,ft 45 0 4),(gt 44,lf 46 1 45),(gt 44,ft 47 0 1),(gt 44,lf 48 1 47),(gt 44,mt 49 3),(gt 44,bi 50 .sub 49 1),(gt 44,ix 51 2 48 50),(gt 44,ft 52 0 51),(gt 44,lf 53 1 52),(gt 44,bt 54 .leq 46 53),an 55 44 54,mt 41 55]) (ci 41 (rr [mi 2 9])))))))))) (cD [mt 14 3,bi 15 .add 14 1,mt 3 15]))
def zJa:bL:=⟨60,sr [box 1 (t 0),mi 2 0] (seq (sr [ft 5 0 1,lf 6 1 5,ln 7 6,bi 8 .gtr 7 24] (ci 8 (rr [mi 2 7]))) (seq (sr [mi 3 0] (block 0 (loop zjw))) (seq (sr [ft 56 1 1,lf 57 1 56,ka 58 NZ 57,nu 59 58] (ci 59 (rr [mi 2 2]))) (rr [mi 2 0])))),[.t 2]⟩
def zZy:AC:=seq (sr [mt 10 1,bi 11 .gtr 10 0] (cn 11 skip (exit 0))) (block 1 (sr [mt 12 0,mt 13 1,bt 14 .rem 12 13,mt 5 14] (sr [mt 15 1,mt 0 15] (cD [mt 16 5,mt 1 16]))))
def yyq:bL:=⟨18,sr [mi 4 0] (sr [mt 6 0,ka 7 VR 6,mt 0 7] (sr [mt 8 1,ka 9 VR 8,mt 1 9] (seq (block 0 (loop zZy)) (rr [mt 17 0,mt 4 17])))),[.t 4]⟩
def zvU:AC:=seq (sr [mt 5 4,ft 6 0 1,lf 7 1 6,ln 8 7,bt 9 .lss 5 8] (cn 9 skip (exit 0))) (seq (block 1 (cD [mt 12 3,ft 13 0 1,lf 14 1 13,mt 15 4,ix 16 2 14 15,ft 17 1 16,lf 18 1 17,kb 19 VI 12 18,mt 3 19])) (cD [mt 10 4,bi 11 .add 10 1,mt 4 11]))
def zKi:bL:=⟨21,sr [box 1 (t 0),mi 2 0] (sr [mi 3 0] (seq (sr [mi 4 0] (block 0 (loop zvU))) (rr [mt 20 3,mt 2 20]))),[.t 2]⟩
def zxq:AC:=seq (sr [mt 11 8,ft 12 0 3,lf 13 1 12,ln 14 13,bt 15 .lss 11 14] (cn 15 skip (exit 0))) (seq (block 1 (cm [ft 18 0 7,lf 19 1 18,ft 20 0 3,lf 21 1 20,mt 22 8,ix 23 2 21 22,ft 24 0 23,lf 25 1 24,ft 26 0 3,lf 27 1 26,mt 28 8,ix 29 2 27 28,ft 30 1 29,lf 31 1 30,mt 32 1,bt 33 .quo 31 32,build 34 nO [(0,1,t 25),(1,1,t 33)],bsl 35 2 [t 34],ap 36 2 24 19 35,ft 37 0 7,su 1 37 36])) (cD [mt 16 8,bi 17 .add 16 1,mt 8 17]))
def zqs:bL:=⟨39,sr [box 3 (t 0),alloc 6 kE] (sr [mt 9 2,build 10 kE [(1,1,t 9)],alloc 7 kE,su 2 7 10] (seq (sr [mi 8 0] (block 0 (loop zxq))) (rr [lg 38 2 7,su 2 6 38]))),[.c 6 true 2]⟩
def Uf:AC:=sr [bt 13 .lss 12 11] (seq (cn 13 skip (exit 0)) (seq (block 1 (sr [mt 14 12,ix 15 2 10 12,lg 16 2 15,alloc 4 nO,mt 3 14,su 2 4 16] (block 2 (sr [ft 18 0 4,lf 19 1 18,bq 20 .eql 19 (.c (.d (.str []))),mt 21 20,(gf 21,ft 22 0 4),(gf 21,lf 23 1 22),(gf 21,ls 24 23),(gf 21,bi 25 .gtr 24 400),ou 26 21 25,mt 17 26] (cn 17 (rr [mi 2 3]) (sr [ft 28 1 4,lf 29 1 28,bi 30 .eql 29 0,mt 31 30,(gf 31,ft 32 1 4),(gf 31,lf 33 1 32),(gf 31,.call (some 34) vo [t 33]),(gf 31,nu 35 34),ou 36 31 35,mt 27 36] (cn 27 (rr [mi 2 2]) (seq (cm [mt 38 3,bi 39 .gtr 38 0,mt 40 39,(gt 40,ft 41 0 4),(gt 40,lf 42 1 41),(gt 40,ft 43 0 1),(gt 40,lf 44 1 43),(gt 40,mt 45 3),(gt 40,bi 46 .sub 45 1),(gt 40,ix 47 2 44 46),(gt 40,ft 48 0 47),(gt 40,lf 49 1 48),(gt 40,bt 50 .leq 42 49),an 51 40 50,mt 37 51]) (ci 37 (rr [mi 2 9])))))))))) (cD [bi 52 .add 12 1,mt 12 52])))
def zYw:bL:=⟨57,sr [box 1 (t 0),mi 2 0] (seq (sr [ft 5 0 1,lf 6 1 5,ln 7 6,bi 8 .gtr 7 24] (ci 8 (rr [mi 2 7]))) (seq (sr [ft 9 0 1,lf 10 1 9,ln 11 10,mi 12 0] (block 0 (loop Uf))) (seq (sr [ft 53 1 1,lf 54 1 53,ka 55 vo 54,nu 56 55] (ci 56 (rr [mi 2 2]))) (rr [mi 2 0])))),[.t 2]⟩
def yym:bL:=⟨32,sr [mi 4 0,mv 5 false] (seq (sr [mt 6 0,ka 7 vo 6,nu 8 7,mt 9 8,(gf 9,mt 10 1),(gf 9,.call (some 11) vo [t 10]),(gf 9,nu 12 11),ou 13 9 12] (ci 13 (rr [mi 4 0,mv 5 false]))) (seq (sr [mt 14 0,bi 15 .eql 14 0,mt 16 15,(gf 16,mt 17 1),(gf 16,bi 18 .eql 17 0),ou 19 16 18] (ci 19 (rr [mi 4 0,mv 5 true]))) (seq (sr [mt 20 1,ka 21 DR 20,mt 22 0,ka 23 DR 22,bin 24 .quo (1000000000000:Int) (t 23),bt 25 .gtr 21 24] (ci 25 (rr [mi 4 0,mv 5 false]))) (rr [mt 26 0,mt 27 1,bt 28 .mul 26 27,kc 29 Ht [t 28,.c (.d (.bool true))],eu 30 29 0,eu 31 29 1,mt 4 30,mt 5 31])))),[.t 4,.t 5]⟩
def zYD:AC:=cD [alloc 4 du,su 4 4 7]
def zYE:AC:=block 1 (sr [ft 8 0 4,lf 9 1 8,bi 10 .eql 9 3] (ci 10 (cD [lf 11 1 3,ft 12 1 4,lf 13 1 12,bsl 14 1 [t 13],ap 15 1 16 11 14,su 1 3 15])))
def Uv:AC:=sr [bt 13 .lss 12 11] (seq (cn 13 skip (exit 0)) (seq (block 1 (sr [ix 14 4 10 12,lg 15 4 14,alloc 8 du,su 4 8 15] (cD [lg 16 4 8,mt 17 1,mt 18 2,kc 19 F1 [t 16,t 17,t 18],mt 2 19]))) (cD [bi 20 .add 12 1,mt 12 20])))
def T4:bL:=⟨37,sr [box 3 (t 0),mv 6 (.c (.full []))] (seq (sr [ft 9 3 3,lf 10 1 9,ln 11 10,mi 12 0] (block 0 (loop Uv))) (seq (sr [ft 21 0 3,lf 22 1 21,mt 23 1,bt 24 .eql 22 23,mt 25 24,(gt 25,mt 26 2),(gt 25,lg 27 4 3),(gt 25,.call (some 28) Lm [t 26,t 27,.c (.d (.clo tN []))]),(gt 25,nu 29 28),an 30 25 29] (ci 30 (cD [mt 31 2,lg 32 4 3,ka 33 D6 32,bsl 34 4 [t 33],ap 35 4 56 31 34,mt 2 35]))) (rr [mt 36 2,mt 6 36]))),[.t 6]⟩
def zkZ:AC:=sr [bt 13 .lss 12 11] (seq (cn 13 skip (exit 0)) (seq (block 1 (sr [ix 14 4 10 12,lg 15 4 14,alloc 8 du,su 4 8 15] (cD [lg 16 4 8,mt 17 1,mt 18 2,kc 19 UJ [t 16,t 17,t 18],mt 2 19]))) (cD [bi 20 .add 12 1,mt 12 20])))
def zqm:bL:=⟨36,sr [box 3 (t 0),mv 6 (.c (.full []))] (seq (sr [ft 9 3 3,lf 10 1 9,ln 11 10,mi 12 0] (block 0 (loop zkZ))) (seq (sr [ft 21 0 3,lf 22 1 21,mt 23 1,bt 24 .eql 22 23,mt 25 24,(gt 25,mt 26 2),(gt 25,lg 27 4 3),(gt 25,.call (some 28) zVq [t 26,t 27]),(gt 25,nu 29 28),an 30 25 29] (ci 30 (cD [mt 31 2,lg 32 4 3,bsl 33 4 [t 32],ap 34 4 56 31 33,mt 2 34]))) (rr [mt 35 2,mt 6 35]))),[.t 6]⟩
def zxz:bL:=⟨4,sr [mv 2 (.c (.d (.str [])))] (seq (sr [mt 3 0] (ci 3 (rr [mv 2 (.c (.d (.str [116,114,117,101])))]))) (rr [mv 2 (.c (.d (.str [102,97,108,115,101])))])),[.t 2]⟩
def zQz:bL:=⟨87,sr [box 1 (t 0),mi 2 0] (sr [ft 4 0 1,lf 5 1 4,bi 6 .eql 5 1,mt 7 6,(gf 7,ft 8 0 1),(gf 7,lf 9 1 8),(gf 7,bi 10 .eql 9 2),ou 11 7 10,mt 3 11] (seq (sr [(none,ft 12 0 1),(none,lf 13 1 12),(none,bi 14 .lss 13 1),(none,mt 15 14),(gf 15,ft 16 0 1),(gf 15,lf 17 1 16),(gf 15,bi 18 .gtr 17 18),(none,ou 19 15 18),(none,mt 20 19),(gf 20,ft 21 1 1),(gf 20,lf 22 1 21),(gf 20,bq 23 .neq 22 (.c (.d (.str [])))),(gf 20,mt 24 23),(gt 24,ft 25 0 1),(gt 24,lf 26 1 25),(gt 24,.call (some 27) zZg [t 26]),(gt 24,nu 28 27),(gf 20,an 29 24 28),(none,ou 30 20 29),(none,mt 31 30),(gf 31,ft 32 2 1),(gf 31,lf 33 1 32),(gf 31,bi 34 .neq 33 0),(gf 31,mt 35 34),(gt 35,mt 36 3),(gt 35,nu 37 36),(gf 31,an 38 35 37),(none,ou 39 31 38),(none,mt 40 39),(gf 40,ft 41 0 1),(gf 40,lf 42 1 41),(gf 40,ft 43 3 1),(gf 40,lf 44 1 43),(gf 40,ln 45 44),(gf 40,.call (some 46) zXA [t 42,t 45]),(gf 40,nu 47 46),(none,ou 48 40 47)] (ci 48 (rr [mi 2 1]))) (seq (sr [ft 49 0 1,lf 50 1 49,bi 51 .eql 50 1,mt 52 51,(gt 52,ft 53 2 1),(gt 52,lf 54 1 53),(gt 52,.call (some 55) NZ [t 54]),(gt 52,nu 56 55),an 57 52 56,mt 58 57,(gf 58,ft 59 0 1),(gf 58,lf 60 1 59),(gf 58,bi 61 .eql 60 2),(gf 58,mt 62 61),(gt 62,ft 63 2 1),(gt 62,lf 64 1 63),(gt 62,bi 65 .lss 64 0),(gt 62,mt 66 65),(gf 66,ft 67 2 1),(gf 66,lf 68 1 67),(gf 66,bi 69 .gtr 68 1),(gt 62,ou 70 66 69),(gf 58,an 71 62 70),ou 72 58 71] (ci 72 (rr [mi 2 2]))) (seq (sr [lg 73 4 1,ka 74 zjj 73,nu 75 74] (ci 75 (rr [mi 2 3]))) (seq (sr [ft 76 0 1,lf 77 1 76,bi 78 .eql 77 8,mt 79 78,(gt 79,ft 80 3 1),(gt 79,lf 81 1 80),(gt 79,.idx 82 4 (t 81) (0:Int)),(gt 79,ft 83 0 82),(gt 79,lf 84 1 83),(gt 79,bi 85 .neq 84 1),an 86 79 85] (ci 86 (rr [mi 2 6]))) (rr [mi 2 0])))))),[.t 2]⟩
def UY:AC:=sr [bt 18 .lss 17 16] (seq (cn 18 skip (exit 0)) (seq (block 1 (sr [mt 19 17,ix 20 4 15 17,lg 21 4 20,alloc 8 du,mt 7 19,su 4 8 21] (sr [mt 22 1,mt 23 7,ix 24 4 22 23,lg 25 4 24,alloc 9 du,su 4 9 25] (sr [mt 26 2,lg 27 4 8,lg 28 4 9,call (some 29) (t 26) [t 27,t 28],nu 30 29] (ci 30 (rr [mv 6 false])))))) (cD [bi 31 .add 17 1,mt 17 31])))
def zzM:bL:=⟨32,sr [mv 6 false] (seq (sr [mt 10 0,ln 11 10,mt 12 1,ln 13 12,bt 14 .neq 11 13] (ci 14 (rr [mv 6 false]))) (seq (sr [mt 15 0,ln 16 15,mi 17 0] (block 0 (loop UY))) (rr [mv 6 true]))),[.t 6]⟩
def zZ2:bL:=⟨25,sr [box 3 (t 0),box 4 (t 1),mv 5 false] (sr [lg 11 3 2,lg 12 4 3,kb 13 rF 11 12,mt 10 13,eu 14 10 0,eu 15 10 1,mt 6 14,mt 7 15] (sr [lg 17 3 2,lg 18 4 4,kb 19 rF 17 18,mt 16 19,eu 20 16 0,eu 21 16 1,mt 8 20,mt 9 21] (rr [mt 22 6,mt 23 8,bt 24 .eql 22 23,mt 5 24]))),[.t 5]⟩
def zYc:bL:=⟨6,sr [alloc 2 du] (seq (sr [mt 3 0] (ci 3 (rr [build 4 du [(0,1,.c (.d (.int .i64 2))),(2,1,.c (.d (.int .i64 1)))],su 4 2 4]))) (rr [build 5 du [(0,1,.c (.d (.int .i64 2)))],su 4 2 5])),[.c 2 true 4]⟩
def zVY:bL:=⟨11,sr [box 1 (t 0),mv 2 false] (seq (cm [lg 3 4 1,build 4 du [],kb 5 tN 3 4,mt 6 5,(gf 6,lg 7 4 1),(gf 6,.call (some 8) Eb [.c (.d (.bool true))]),(gf 6,.call (some 9) tN [t 7,t 8]),ou 10 6 9,mt 2 10]) ret),[.t 2]⟩
def Ue:AC:=sr [bt 17 .lss 16 15] (seq (cn 17 skip (exit 0)) (seq (block 1 (sr [ix 18 4 14 16,lg 19 4 18,alloc 5 du,su 4 5 19] (cm [ft 20 3 3,lf 21 1 20,lg 22 4 5,ka 23 D6 22,bsl 24 4 [t 23],ap 25 4 56 21 24,ft 26 3 3,su 1 26 25]))) (cD [bi 27 .add 16 1,mt 16 27])))
def zXY:bL:=⟨29,sr [box 1 (t 0),alloc 2 du] (sr [ft 6 0 1,lf 7 1 6,ft 8 1 1,lf 9 1 8,ft 10 2 1,lf 11 1 10,build 12 du [(0,1,t 7),(1,1,t 9),(2,1,t 11)],alloc 3 du,su 4 3 12] (seq (sr [ft 13 3 1,lf 14 1 13,ln 15 14,mi 16 0] (block 0 (loop Ue))) (rr [lg 28 4 3,su 4 2 28]))),[.c 2 true 4]⟩
def zYG:AC:=seq (sr [mt 12 7,ft 13 3 3,lf 14 1 13,ln 15 14,bt 16 .lss 12 15] (cn 16 skip (exit 0))) (seq (block 1 (seq (cm [lg 20 3 2,ft 21 3 3,lf 22 1 21,mt 23 7,ix 24 4 22 23,lg 25 4 24,kb 26 Vy 20 25,mt 19 26,eu 27 19 0,eu 28 19 1,mt 8 27,mt 9 28]) (seq (sr [mt 29 9,bi 30 .neq 29 0] (ci 30 (rr [mt 31 9,mv 4 (.c (.d (.str []))),mt 5 31]))) (cD [mt 32 6,mt 33 8,bsl 34 1 [t 33],ap 35 1 16 32 34,mt 6 35])))) (cD [mt 17 7,bi 18 .add 17 1,mt 7 18]))
def yw7:bL:=⟨78,sr [box 2 (t 0),box 3 (t 1),mv 4 (.c (.d (.str []))),mi 5 0] (sr [mv 6 (.c (.full []))] (seq (sr [mi 7 0] (block 0 (loop zYG))) (seq (sr [ft 36 0 3,lf 37 1 36] (block 2 (sr [bi 39 .eql 37 1,mt 38 39] (cn 38 (rr [mv 4 (.c (.d (.str [73,110,116]))),mi 5 0]) (sr [bi 41 .eql 37 2,mt 40 41] (cn 40 (rr [mv 4 (.c (.d (.str [66,111,111,108]))),mi 5 0]) (sr [bi 43 .eql 37 3,mt 42 43] (cn 42 (sr [lg 45 3 2,ft 46 1 3,lf 47 1 46,kb 48 zVp 45 47,mt 44 48,eu 49 44 0,eu 50 44 1,mt 10 49,mt 11 50] (seq (sr [mt 51 11,nu 52 51] (ci 52 (rr [mv 4 (.c (.d (.str []))),mi 5 5]))) (rr [mt 53 10,mt 4 53,mi 5 0]))) (sr [bi 55 .eql 37 4,mt 54 55] (cn 54 (rr [lg 56 3 2,ft 57 1 3,lf 58 1 57,mt 59 6,kc 60 zVr [t 56,t 58,t 59],eu 61 60 0,eu 62 60 1,mt 4 61,mt 5 62]) (sr [bi 64 .eql 37 5,mt 63 64] (ci 63 (rr [lg 65 3 2,ft 66 1 3,lf 67 1 66,mt 68 6,kc 69 zXD [t 65,t 67,t 68],eu 70 69 0,eu 71 69 1,mt 4 70,mt 5 71]))))))))))))) (rr [ft 72 0 3,lf 73 1 72,mt 74 6,kb 75 zwv 73 74,eu 76 75 0,eu 77 75 1,mt 4 76,mt 5 77])))),[.t 4,.t 5]⟩
def zQv:bL:=⟨2,sr [alloc 0 du] (rr [build 1 du [(0,1,.c (.d (.int .i64 2))),(2,1,.c (.d (.int .i64 1)))],su 4 0 1]),[.c 0 true 4]⟩
def zV6:bL:=⟨2,sr [alloc 0 du] (rr [build 1 du [(0,1,.c (.d (.int .i64 2)))],su 4 0 1]),[.c 0 true 4]⟩
def zQw:bL:=⟨11,sr [box 1 (t 0),mv 2 false] (seq (cm [lg 3 4 1,kc 4 VS [],kb 5 Lk 3 4,mt 6 5,(gf 6,lg 7 4 1),(gf 6,.build 8 du []),(gf 6,.call (some 9) Lk [t 7,t 8]),ou 10 6 9,mt 2 10]) ret),[.t 2]⟩
def Ul:AC:=seq (sr [mt 11 6,bi 12 .geq 11 0] (cn 12 skip (exit 0))) (seq (block 1 (sr [ft 15 0 2,lf 16 1 15,mt 17 6,ix 18 2 16 17,ft 19 0 18,lf 20 1 19,mt 21 1,bt 22 .eql 20 21] (ci 22 (rr [ft 23 0 2,lf 24 1 23,mt 25 6,ix 26 2 24 25,ft 27 1 26,lf 28 1 27,mt 4 28,mv 5 true])))) (cD [mt 13 6,bi 14 .sub 13 1,mt 6 14]))
def zQM:bL:=⟨29,sr [box 2 (t 0),mv 4 (.c (.d (.str []))),mv 5 false] (seq (sr [ft 7 0 2,lf 8 1 7,ln 9 8,bi 10 .sub 9 1,mt 6 10] (block 0 (loop Ul))) (rr [mv 4 (.c (.d (.str []))),mv 5 false])),[.t 4,.t 5]⟩
def UK:AC:=sr [bt 40 .lss 39 38] (seq (cn 40 skip (exit 0)) (seq (block 1 (sr [mt 41 39,ix 42 1 37 39,lf 43 1 42,mt 10 41,mt 11 43] (sr [mt 44 11,ft 45 1 8,lf 46 1 45,mt 47 10,ix 48 1 46 47,lf 49 1 48,bt 50 .neq 44 49] (ci 50 (rr [mv 6 (.c (.d (.str []))),mi 7 11]))))) (cD [bi 51 .add 39 1,mt 39 51])))
def zj3:bL:=⟨54,sr [box 3 (t 0),mv 6 (.c (.d (.str []))),mi 7 0] (sr [lg 13 3 3,mt 14 1,kb 15 KA 13 14,mt 12 15,eu 16 12 0,eu 17 12 1,alloc 8 BE,su 3 8 16,mt 9 17] (seq (sr [mt 18 9,nu 19 18] (ci 19 (rr [mv 6 (.c (.d (.str []))),mi 7 5]))) (seq (sr [mt 20 1,bq 21 .eql 20 (.c (.d (.str [116,97,103])))] (ci 21 (seq (sr [mt 22 2,ln 23 22,bi 24 .neq 23 1] (ci 24 (rr [mv 6 (.c (.d (.str []))),mi 7 13]))) (seq (sr [mt 25 2,idx 26 1 (t 25) (0:Int),lf 27 1 26,ka 28 Lf 27] (ci 28 (rr [mv 6 (.c (.d (.str []))),mi 7 11]))) (rr [ft 29 2 8,lf 30 1 29,mt 6 30,mi 7 0]))))) (seq (sr [mt 31 2,ln 32 31,ft 33 1 8,lf 34 1 33,ln 35 34,bt 36 .neq 32 35] (ci 36 (rr [mv 6 (.c (.d (.str []))),mi 7 13]))) (seq (sr [mt 37 2,ln 38 37,mi 39 0] (block 0 (loop UK))) (rr [ft 52 2 8,lf 53 1 52,mt 6 53,mi 7 0])))))),[.t 6,.t 7]⟩
def UG:AC:=sr [bt 29 .lss 28 27] (seq (cn 29 skip (exit 0)) (seq (block 1 (sr [mt 30 28,ix 31 1 26 28,lf 32 1 31,mt 10 30,mt 11 32] (sr [mt 33 11,ft 34 1 8,lf 35 1 34,mt 36 10,ix 37 2 35 36,ft 38 1 37,lf 39 1 38,bt 40 .neq 33 39] (ci 40 (rr [mv 6 (.c (.d (.str []))),mi 7 11]))))) (cD [bi 41 .add 28 1,mt 28 41])))
def zq0:bL:=⟨42,sr [box 3 (t 0),mv 6 (.c (.d (.str []))),mi 7 0] (sr [lg 13 3 3,mt 14 1,kb 15 KB 13 14,mt 12 15,eu 16 12 0,eu 17 12 1,alloc 8 AP,su 2 8 16,mt 9 17] (seq (sr [mt 18 9,nu 19 18] (ci 19 (rr [mv 6 (.c (.d (.str []))),mi 7 5]))) (seq (sr [mt 20 2,ln 21 20,ft 22 1 8,lf 23 1 22,ln 24 23,bt 25 .neq 21 24] (ci 25 (rr [mv 6 (.c (.d (.str []))),mi 7 13]))) (seq (sr [mt 26 2,ln 27 26,mi 28 0] (block 0 (loop UG))) (rr [mv 6 (.c (.d (.str [66,111,111,108]))),mi 7 0]))))),[.t 6,.t 7]⟩
def zq1:bL:=⟨22,sr [alloc 2 Hg] (seq (sr [mt 3 0] (block 0 (seq (sr [bi 5 .eql 3 6,mt 4 5] (cn 4 skip (sr [bi 6 .eql 3 7,mt 4 6] (cn 4 skip (sr [bi 7 .eql 3 8,mt 4 7] (cn 4 skip (cD [bi 8 .eql 3 9,mt 4 8]))))))) (cn 4 (rr [kc 9 F3 [.c (.d (.str [73,110,116]))],build 10 Hg [(0,1,t 9),(1,1,.c (.d (.str [73,110,116])))],su 2 2 10]) (seq (sr [bi 12 .eql 3 12,mt 11 12] (cn 11 skip (cD [bi 13 .eql 3 13,mt 11 13]))) (cn 11 (rr [kc 14 F3 [.c (.d (.str [73,110,116]))],build 15 Hg [(0,1,t 14),(1,1,.c (.d (.str [66,111,111,108])))],su 2 2 15]) (seq (sr [bi 17 .eql 3 10,mt 16 17] (cn 16 skip (cD [bi 18 .eql 3 11,mt 16 18]))) (ci 16 (rr [build 19 Hg [(0,1,.c (.d (.clo HD []))),(1,1,.c (.d (.str [66,111,111,108])))],su 2 2 19]))))))))) (rr [kc 20 F3 [.c (.d (.str [66,111,111,108]))],build 21 Hg [(0,1,t 20),(1,1,.c (.d (.str [66,111,111,108])))],su 2 2 21])),[.c 2 true 2]⟩
def Oz:bL:=⟨6,cD [lg 3 4 1,mt 4 0,kb 5 D0 3 4],[]⟩
def Uw:AC:=sr [bt 15 .lss 14 13] (seq (cn 15 skip (exit 0)) (seq (block 1 (sr [ix 16 4 12 14,lg 17 4 16,alloc 6 du,su 4 6 17] (sr [lg 18 4 6,mt 19 1,kb 20 D0 18 19,nu 21 20] (ci 21 (rr [mv 4 false]))))) (cD [bi 22 .add 14 1,mt 14 22])))
def Ou:bL:=⟨23,sr [box 2 (t 0),mv 4 false] (seq (sr [mt 7 1,lg 8 4 2,call (some 9) (t 7) [t 8],nu 10 9] (ci 10 (rr [mv 4 false]))) (seq (sr [ft 11 3 2,lf 12 1 11,ln 13 12,mi 14 0] (block 0 (loop Uw))) (rr [mv 4 true]))),[.t 4]⟩
def zVW:bL:=⟨15,sr [mi 2 0,mi 3 0] (seq (sr [mt 4 0] (block 0 (seq (sr [bi 6 .eql 4 1,mt 5 6] (cn 5 skip (sr [bi 7 .eql 4 2,mt 5 7] (cn 5 skip (cD [bi 8 .eql 4 3,mt 5 8]))))) (cn 5 (rr [mi 2 0,mi 3 0]) (seq (sr [bi 10 .eql 4 4,mt 9 10] (cn 9 skip (cD [bi 11 .eql 4 5,mt 9 11]))) (cn 9 (rr [mi 2 1,mi 3 24]) (seq (sr [bi 13 .eql 4 9,mt 12 13] (cn 12 skip (cD [bi 14 .eql 4 14,mt 12 14]))) (ci 12 (rr [mi 2 1,mi 3 1]))))))))) (rr [mi 2 2,mi 3 2])),[.t 2,.t 3]⟩
def zKh:bL:=⟨13,sr [mv 2 false] (rr [mt 3 0,bi 4 .eql 3 3,mt 5 4,(gf 5,mt 6 0),(gf 5,bi 7 .eql 6 4),ou 8 5 7,mt 9 8,(gf 9,mt 10 0),(gf 9,bi 11 .eql 10 5),ou 12 9 11,mt 2 12]),[.t 2]⟩
def ZU:bL:=⟨9,sr [mv 2 false] (rr [mt 3 0,bq 4 .geq 3 (-1000000000000:Int),mt 5 4,(gt 5,mt 6 0),(gt 5,bi 7 .leq 6 1000000000000),an 8 5 7,mt 2 8]),[.t 2]⟩
def Uq:AC:=seq (sr [mt 32 5] (cn 32 skip (exit 0))) (block 1 (sr [mv 6 (.c (.d (.str [])))] (sr [mt 34 4,ka 35 Hd 34,mt 33 35,eu 36 33 0,eu 37 33 1,eu 38 33 2,mt 6 36,mt 4 37,mt 5 38] (sr [mt 39 6,ka 40 F5 39,nu 41 40,mt 42 41,(gf 42,mt 43 6),(gf 42,.call (some 44) HF [t 43]),(gf 42,nu 45 44),(gf 42,mt 46 45),(gt 46,mt 47 6),(gt 46,.call (some 48) KI [t 47]),(gt 46,nu 49 48),(gf 42,an 50 46 49),ou 51 42 50] (ci 51 (rr [mi 2 3]))))))
def zW9:bL:=⟨52,sr [mi 2 0] (seq (sr [mt 7 0,ls 8 7,bi 9 .gtr 8 120] (ci 9 (rr [mi 2 3]))) (sr [mt 11 0,ka 12 Hd 11,mt 10 12,eu 13 10 0,eu 14 10 1,eu 15 10 2,mt 3 13,mt 4 14,mt 5 15] (seq (sr [mt 16 3,ka 17 KH 16,nu 18 17,mt 19 18,(gt 19,mt 20 3),(gt 19,.call (some 21) KP [t 20]),(gt 19,nu 22 21),an 23 19 22,mt 24 23,(gt 24,mt 25 3),(gt 24,bq 26 .neq 25 (.c (.d (.str [118])))),(gt 24,mt 27 26),(gf 27,mt 28 5),(gf 27,nu 29 28),(gt 24,ou 30 27 29),an 31 24 30] (ci 31 (rr [mi 2 3]))) (seq (block 0 (loop Uq)) (rr [mi 2 0]))))),[.t 2]⟩
def UP:AC:=sr [bt 16 .lss 15 14] (seq (cn 16 skip (exit 0)) (seq (block 1 (sr [mt 17 15,mt 7 17] (seq (cm [mt 18 2,mt 19 0,mt 20 7,ix 21 4 19 20,lg 22 4 21,mt 23 1,mt 24 7,ix 25 4 23 24,lg 26 4 25,call (some 27) (t 18) [t 22,t 26],nu 28 27]) (ci 28 (rr [mv 6 false]))))) (cD [bi 29 .add 15 1,mt 15 29])))
def zkR:bL:=⟨30,sr [mv 6 false] (seq (sr [mt 8 0,ln 9 8,mt 10 1,ln 11 10,bt 12 .neq 9 11] (ci 12 (rr [mv 6 false]))) (seq (sr [mt 13 0,ln 14 13,mi 15 0] (block 0 (loop UP))) (rr [mv 6 true]))),[.t 6]⟩
def zwL:bL:=⟨38,sr [alloc 4 du] (seq (sr [mt 5 0,nck 6 (t 5),ft 7 6 6,lf 8 1 7,mt 9 1,mget 10 false jt rA (.str []) (MV.one (.bool false)) (t 8) (t 9),nu 11 10] (ci 11 (sr [mt 12 0,nck 13 (t 12),ft 14 6 13,lf 15 1 14,mt 16 1,mput jt rA (.str []) (t 15) (t 16) true] (cD [mt 17 0,mt 18 0,nck 19 (t 18),ft 20 5 19,lf 21 1 20,mt 22 1,bsl 23 1 [t 22],ap 24 1 16 21 23,nck 25 (t 17),ft 26 5 25,su 1 26 24])))) (rr [mt 27 0,mt 28 0,mt 29 0,mt 30 1,kd 31 Bu [t 29,t 30],build 32 kE [(1,1,.c (.d (.int .i64 (-1))))],kb 33 xY 31 32,eu 34 33 0,eu 35 33 1,kd 36 uX [t 28,t 34,t 35],kd 37 Ga [t 27,t 36],su 4 4 37])),[.c 4 true 4]⟩
def UT:bL:=⟨96,sr [box 3 (t 1),alloc 4 du] (seq (seq (cm [mt 13 0,nck 14 (t 13),ft 15 0 14,lg 16 3 15,ft 17 3 3,lf 18 1 17,idx 19 4 (t 18) (0:Int),lg 20 4 19,kb 21 rF 16 20,mt 12 21,eu 22 12 0,eu 23 12 1,mt 5 22,mt 6 23]) (sr [mt 24 5,bq 25 .eql 24 (.c (.d (.str [66,111,111,108])))] (ci 25 (sr [mt 26 0,ft 27 3 3,lf 28 1 27,idx 29 4 (t 28) (0:Int),lg 30 4 29,kd 31 CF [t 26,t 30],alloc 7 du,su 4 7 31] (seq (.scope (seq (.pw [32] [lg 32 4 7,mt 33 0,ft 34 3 3,lf 35 1 34,idx 36 4 (t 35) (1:Int),lg 37 4 36,kd 38 CF [t 33,t 37],kc 39 yr [.c (.d (.int .i64 18)),t 32,t 38],alloc 8 du,su 4 8 39]) skip)) (seq (sr [ft 40 0 3,lf 41 1 40,bi 42 .eql 41 11] (ci 42 (rr [lg 43 4 8,ka 44 Cy 43,su 4 4 44]))) (rr [lg 45 4 8,su 4 4 45]))))))) (sr [mt 46 0,ft 47 3 3,lf 48 1 47,idx 49 4 (t 48) (0:Int),lg 50 4 49,kd 51 yw [t 46,t 50],alloc 9 kE,su 2 9 51] (sr [mt 52 0,ft 53 3 3,lf 54 1 53,idx 55 4 (t 54) (1:Int),lg 56 4 55,kd 57 yw [t 52,t 56],alloc 10 kE,su 2 10 57] (seq (.scope (seq (.pw [59] [mt 58 0,lg 59 2 9,mt 60 0,lg 61 2 10,kc 62 Bs [t 61,.c (.d (.int .i64 (-1)))],eu 63 62 0,eu 64 62 1,kd 65 uX [t 60,t 63,t 64],kb 66 xY 59 65,eu 67 66 0,eu 68 66 1,kd 69 uX [t 58,t 67,t 68],alloc 11 kE,su 2 11 69]) skip)) (seq (sr [mt 70 0,nck 71 (t 70),ft 72 7 71,lf 73 1 72] (ci 73 (rr [kc 74 D4 [.c (.d (.bool false))],su 4 4 74]))) (seq (sr [ft 75 0 3,lf 76 1 75] (block 0 (sr [bi 78 .eql 76 10,mt 77 78] (cn 77 (rr [mt 79 0,lg 80 2 11,kd 81 Ga [t 79,t 80],su 4 4 81]) (sr [bi 83 .eql 76 11,mt 82 83] (cn 82 (rr [mt 84 0,lg 85 2 11,kd 86 Ga [t 84,t 85],ka 87 Cy 86,su 4 4 87]) (sr [bi 89 .eql 76 13,mt 88 89] (ci 88 (rr [mt 90 0,lg 91 2 11,kd 92 CG [t 90,t 91],su 4 4 92]))))))))) (rr [mt 93 0,lg 94 2 11,kd 95 Lp [t 93,t 94],su 4 4 95]))))))),[.c 4 true 4]⟩
def US:bL:=⟨15,sr [alloc 4 kE] (rr [mt 5 0,mt 6 1,build 7 nO [(0,1,t 6),(1,1,.c (.d (.int .i64 1)))],bsl 8 2 [t 7],build 9 kE [(0,1,t 8)],build 10 kE [],kb 11 xY 9 10,eu 12 11 0,eu 13 11 1,kd 14 uX [t 5,t 12,t 13],su 2 4 14]),[.c 4 true 2]⟩
def UQ:bL:=⟨29,sr [box 3 (t 1),alloc 4 du] (seq (sr [ft 8 0 3,lf 9 1 8,ln 10 9,bi 11 .eql 10 0] (ci 11 (rr [ft 12 1 3,lf 13 1 12,bi 14 .leq 13 0,ka 15 D4 14,su 4 4 15]))) (sr [mt 17 0,lg 18 2 3,kd 19 CD [t 17,t 18],mt 16 19,eu 20 16 0,eu 21 16 1,eu 22 16 2,alloc 5 du,alloc 6 du,su 4 5 20,su 4 6 21,mt 7 22] (seq (sr [mt 23 7] (ci 23 (seq (cm [lg 24 4 6,ka 25 Cy 24,lg 26 4 5,kc 27 yr [.c (.d (.int .i64 16)),t 25,t 26],su 4 4 27]) ret))) (rr [lg 28 4 6,su 4 4 28])))),[.c 4 true 4]⟩
def Ln:bL:=⟨13,sr [box 4 (t 1),alloc 6 kE] (seq (sr [mt 7 2,nu 8 7] (ci 8 (cD [mt 9 0,nck 10 (t 9),ft 11 7 10,st 1 (t 11) true]))) (rr [lg 12 2 4,su 2 6 12])),[.c 6 true 2]⟩
def Ec:AC:=seq (sr [mt 25 7,ft 26 0 2,lf 27 1 26,ln 28 27,bt 29 .lss 25 28,mt 30 29,(gf 30,mt 31 8),(gf 30,ft 32 0 3),(gf 30,lf 33 1 32),(gf 30,ln 34 33),(gf 30,bt 35 .lss 31 34),ou 36 30 35] (cn 36 skip (exit 0))) (block 1 (block 2 (seq (cm [mt 70 8,ft 71 0 3,lf 72 1 71,ln 73 72,bt 74 .eql 70 73,mt 75 74,(gf 75,mt 76 7),(gf 75,ft 77 0 2),(gf 75,lf 78 1 77),(gf 75,ln 79 78),(gf 75,bt 80 .lss 76 79),(gf 75,mt 81 80),(gt 81,ft 82 0 2),(gt 81,lf 83 1 82),(gt 81,mt 84 7),(gt 81,ix 85 2 83 84),(gt 81,ft 86 0 85),(gt 81,lf 87 1 86),(gt 81,ft 88 0 3),(gt 81,lf 89 1 88),(gt 81,mt 90 8),(gt 81,ix 91 2 89 90),(gt 81,ft 92 0 91),(gt 81,lf 93 1 92),(gt 81,bt 94 .lss 87 93),(gf 75,an 95 81 94),ou 96 75 95,mt 69 96]) (cn 69 (seq (cm [ft 97 0 6,lf 98 1 97,ft 99 0 2,lf 100 1 99,mt 101 7,ix 102 2 100 101,lg 103 2 102,bsl 104 2 [t 103],ap 105 2 24 98 104,ft 106 0 6,su 1 106 105]) (cD [mt 107 7,bi 108 .add 107 1,mt 7 108])) (seq (cm [mt 110 7,ft 111 0 2,lf 112 1 111,ln 113 112,bt 114 .eql 110 113,mt 115 114,(gf 115,ft 116 0 3),(gf 115,lf 117 1 116),(gf 115,mt 118 8),(gf 115,ix 119 2 117 118),(gf 115,ft 120 0 119),(gf 115,lf 121 1 120),(gf 115,ft 122 0 2),(gf 115,lf 123 1 122),(gf 115,mt 124 7),(gf 115,ix 125 2 123 124),(gf 115,ft 126 0 125),(gf 115,lf 127 1 126),(gf 115,bt 128 .lss 121 127),ou 129 115 128,mt 109 129]) (cn 109 (seq (cm [ft 130 0 6,lf 131 1 130,ft 132 0 3,lf 133 1 132,mt 134 8,ix 135 2 133 134,lg 136 2 135,bsl 137 2 [t 136],ap 138 2 24 131 137,ft 139 0 6,su 1 139 138]) (cD [mt 140 8,bi 141 .add 140 1,mt 8 141])) (seq (seq (cm [ft 37 0 2,lf 38 1 37,mt 39 7,ix 40 2 38 39,ft 41 1 40,lf 42 1 41,ft 43 0 3,lf 44 1 43,mt 45 8,ix 46 2 44 45,ft 47 1 46,lf 48 1 47,bt 49 .add 42 48,mt 9 49]) (sr [mt 50 9,bi 51 .neq 50 0] (ci 51 (cm [ft 52 0 6,lf 53 1 52,ft 54 0 2,lf 55 1 54,mt 56 7,ix 57 2 55 56,ft 58 0 57,lf 59 1 58,mt 60 9,build 61 nO [(0,1,t 59),(1,1,t 60)],bsl 62 2 [t 61],ap 63 2 24 53 62,ft 64 0 6,su 1 64 63])))) (sr [mt 65 7,bi 66 .add 65 1,mt 7 66] (cD [mt 67 8,bi 68 .add 67 1,mt 8 68])))))))))
def zW8:bL:=⟨146,sr [box 2 (t 0),box 3 (t 1),alloc 4 kE,mv 5 false] (seq (sr [lg 10 2 2,ka 11 AQ 10,bi 12 .neq 11 0,mt 13 12,(gf 13,lg 14 2 3),(gf 13,.call (some 15) AQ [t 14]),(gf 13,bi 16 .neq 15 0),ou 17 13 16] (ci 17 (rr [build 18 kE [],su 2 4 18,mv 5 false]))) (sr [ft 19 1 2,lf 20 1 19,ft 21 1 3,lf 22 1 21,bt 23 .add 20 22,build 24 kE [(1,1,t 23)],alloc 6 kE,su 2 6 24] (sr [mi 7 0,mi 8 0] (seq (block 0 (loop Ec)) (rr [lg 142 2 6,ka 143 KV 142,eu 144 143 0,eu 145 143 1,su 2 4 144,mt 5 145]))))),[.c 4 true 2,.t 5]⟩
def zYx:bL:=⟨54,sr [box 2 (t 0),box 3 (t 1),alloc 4 kE,mv 5 false] (seq (sr [lg 10 2 2,ka 11 AQ 10,bi 12 .neq 11 0] (ci 12 (rr [build 13 kE [],su 2 4 13,mv 5 false]))) (seq (sr [lf 14 1 3,bi 15 .eql 14 0] (ci 15 (rr [build 16 kE [],su 2 4 16,mv 5 true]))) (seq (sr [lf 17 1 3,ka 18 vo 17,nu 19 18] (ci 19 (seq (.lL [build 20 kE [],ft 21 0 2,lf 22 1 21,ln 23 22,bi 24 .eql 23 0,mt 25 24,(gt 25,ft 26 1 2)] (gt 25,lf 27 1 26) (su 2 4 20) [(gt 25,bi 28 .eql 27 0),an 29 25 28,mt 5 29]) ret))) (sr [ft 31 1 2,lf 32 1 31,lf 33 1 3,kb 34 Em 32 33,mt 30 34,eu 35 30 0,eu 36 30 1,mt 6 35,mt 7 36] (sr [ft 38 0 2,lf 39 1 38,mkf 40 Hx [t 3],kb 41 HG 39 40,mt 37 41,eu 42 37 0,eu 43 37 1,mt 8 42,mt 9 43] (seq (sr [mt 44 7,nu 45 44,mt 46 45,(gf 46,mt 47 9),(gf 46,nu 48 47),ou 49 46 48] (ci 49 (rr [build 50 kE [],su 2 4 50,mv 5 false]))) (rr [mt 51 8,mt 52 6,build 53 kE [(0,1,t 51),(1,1,t 52)],su 2 4 53,mv 5 true]))))))),[.c 4 true 2,.t 5]⟩
def zxU:AC:=seq (sr [mt 17 7,mt 18 0,nck 19 (t 18),ft 20 4 19,lf 21 1 20,ln 22 21,bt 23 .lss 17 22] (cn 23 skip (exit 0))) (seq (block 1 (cm [mt 26 6,mt 27 26,(gf 27,mt 28 0),(gf 27,.nck 29 (t 28)),(gf 27,ft 30 4 29),(gf 27,lf 31 1 30),(gf 27,mt 32 7),(gf 27,ix 33 4 31 32),(gf 27,lg 34 4 33),(gf 27,lg 35 4 3),(gf 27,.call (some 36) Lk [t 34,t 35]),ou 37 27 36,mt 6 37])) (cD [mt 24 7,bi 25 .add 24 1,mt 7 25]))
def zjy:bL:=⟨54,sr [box 3 (t 1),alloc 4 du] (sr [lg 8 4 3,kc 9 TR [t 8,.c (.d (.int .i64 1)),.c (.d (.int .i64 (-1)))],alloc 5 kE,su 2 5 9] (seq (sr [lg 10 2 5,ka 11 Ia 10,bi 12 .neq 11 0] (ci 12 (sr [mt 13 0,nck 14 (t 13),ft 15 6 14,st 1 (t 15) true] (rr [kc 16 Pe [.c (.d (.bool false))],su 4 4 16])))) (sr [mv 6 false] (seq (sr [mi 7 0] (block 0 (loop zxU))) (seq (sr [mt 38 6,nu 39 38] (ci 39 (.scope (seq (.pw [] [mt 40 0,nck 41 (t 40),ft 42 4 41,lf 43 1 42,lg 44 4 3,ln 45 43,bslz 46 4 [.c (.agg du)]]) (sr [ap 47 4 56 43 46] (.alt (sr [ix 48 4 47 45] (.alt (sr [su 4 48 44] (sr [nck 49 (t 40)] (sr [ft 50 4 49] (sr [su 1 50 47] skip)))) (sr [nck 49 (t 40)] (.alt (sr [su 4 48 44] (sr [ft 50 4 49] (sr [su 1 50 47] skip))) (sr [ft 50 4 49] (.alt (sr [su 4 48 44] (sr [su 1 50 47] skip)) (sr [su 1 50 47] (sr [su 4 48 44] skip)))))))) (sr [nck 49 (t 40)] (.alt (sr [ix 48 4 47 45] (.alt (sr [su 4 48 44] (sr [ft 50 4 49] (sr [su 1 50 47] skip))) (sr [ft 50 4 49] (.alt (sr [su 4 48 44] (sr [su 1 50 47] skip)) (sr [su 1 50 47] (sr [su 4 48 44] skip)))))) (sr [ft 50 4 49] (.alt (sr [ix 48 4 47 45] (.alt (sr [su 4 48 44] (sr [su 1 50 47] skip)) (sr [su 1 50 47] (sr [su 4 48 44] skip)))) (sr [su 1 50 47] (sr [ix 48 4 47 45] (sr [su 4 48 44] skip))))))))))))) (rr [mt 51 0,lg 52 2 5,kd 53 Wb [t 51,t 52],su 4 4 53])))))),[.c 4 true 4]⟩
def zx3:AC:=seq (sr [mt 7 6,mt 8 1,ln 9 8,bt 10 .lss 7 9] (cn 10 skip (exit 0))) (seq (block 1 (cD [mt 13 5,mt 14 0,mt 15 1,mt 16 6,ix 17 4 15 16,lg 18 4 17,kd 19 Pk [t 14,t 18],bsl 20 4 [t 19],ap 21 4 56 13 20,mt 5 21])) (cD [mt 11 6,bi 12 .add 11 1,mt 6 12]))
def zjZ:bL:=⟨23,sr [mv 4 (.c (.full []))] (sr [mv 5 (.c (.full []))] (seq (sr [mi 6 0] (block 0 (loop zx3))) (rr [mt 22 5,mt 4 22]))),[.t 4]⟩
def zj1:bL:=⟨17,sr [box 3 (t 1),mv 4 (.c (.d (.str [])))] (seq (cm [mt 8 0,nck 9 (t 8),ft 10 0 9,lg 11 3 10,lg 12 4 3,kb 13 NP 11 12,mt 7 13,eu 14 7 0,eu 15 7 1,mt 5 14,mt 6 15]) (rr [mt 16 5,mt 4 16])),[.t 4]⟩
def zj2:bL:=⟨24,sr [box 3 (t 1),alloc 4 du] (seq (sr [ft 7 0 3,lf 8 1 7,ln 9 8,bi 10 .eql 9 0] (ci 10 (rr [ft 11 1 3,lf 12 1 11,bi 13 .eql 12 0,ka 14 Pe 13,su 4 4 14]))) (sr [lg 16 2 3,ka 17 Um 16,mt 15 17,eu 18 15 0,eu 19 15 1,alloc 5 kE,su 2 5 18,mt 6 19] (rr [mt 20 0,lg 21 2 5,kd 22 OE [t 20,t 21],kc 23 La [.c (.d (.int .i64 10)),t 22],su 4 4 23]))),[.c 4 true 4]⟩
def zki:bL:=⟨26,sr [box 4 (t 1),box 5 (t 2),alloc 6 kE] (seq (cm [lg 10 4 4,ka 11 Pg 10,lg 12 4 5,ka 13 Pg 12,bsl 14 4 [t 11,t 13],kc 15 H8 [.c (.d (.int .i64 7)),t 14],ka 16 Oy 15,mt 9 16,eu 17 9 0,eu 18 9 1,alloc 7 kE,su 2 7 17,mt 8 18]) (seq (sr [mt 19 8,nu 20 19] (ci 20 (sr [mt 21 0,nck 22 (t 21),ft 23 6 22,st 1 (t 23) true] (rr [build 24 kE [],su 2 6 24])))) (rr [lg 25 2 7,su 2 6 25]))),[.c 6 true 2]⟩
def zQL:bL:=⟨8,sr [alloc 4 du] (rr [mt 5 0,mt 6 1,build 7 du [(0,1,t 5),(3,1,t 6)],su 4 4 7]),[.c 4 true 4]⟩
def zj0:bL:=⟨38,sr [box 3 (t 1),alloc 4 du] (seq (sr [ft 8 0 3,lf 9 1 8,ln 10 9,bi 11 .eql 10 0] (ci 11 (rr [ft 12 1 3,lf 13 1 12,bi 14 .lss 13 0,ka 15 Pe 14,su 4 4 15]))) (sr [lg 17 2 3,ka 18 Um 17,mt 16 18,eu 19 16 0,eu 20 16 1,alloc 5 kE,su 2 5 19,mt 6 20] (sr [mt 21 0,lg 22 2 5,kd 23 OE [t 21,t 22],mt 7 23] (seq (sr [mt 24 6,bi 25 .eql 24 1] (ci 25 (rr [mt 26 7,kc 27 La [.c (.d (.int .i64 13)),t 26],mt 28 7,kc 29 La [.c (.d (.int .i64 10)),t 28],bsl 30 4 [t 29],kc 31 H8 [.c (.d (.int .i64 14)),t 30],bsl 32 4 [t 27,t 31],kc 33 H8 [.c (.d (.int .i64 15)),t 32],su 4 4 33]))) (rr [mt 34 7,kc 35 La [.c (.d (.int .i64 13)),t 34],bsl 36 4 [t 35],kc 37 H8 [.c (.d (.int .i64 14)),t 36],su 4 4 37]))))),[.c 4 true 4]⟩
def zJe:bL:=⟨6,sr [alloc 2 du] (seq (sr [mt 3 0] (ci 3 (rr [build 4 du [(0,1,.c (.d (.int .i64 2))),(2,1,.c (.d (.int .i64 1)))],su 4 2 4]))) (rr [build 5 du [(0,1,.c (.d (.int .i64 2)))],su 4 2 5])),[.c 2 true 4]⟩
def zym:AC:=seq (sr [mt 6 5,mt 7 0,nck 8 (t 7),ft 9 3 8,lf 10 1 9,ln 11 10,bt 12 .lss 6 11] (cn 12 skip (exit 0))) (seq (block 1 (seq (cm [mt 15 0,nck 16 (t 15),ft 17 3 16,lf 18 1 17,mt 19 5,ix 20 2 18 19,lg 21 2 20,lg 22 2 3,kb 23 V5 21 22]) (ci 23 (rr [mt 24 5,mt 4 24])))) (cD [mt 13 5,bi 14 .add 13 1,mt 5 14]))
def zw8:bL:=⟨50,sr [box 3 (t 1),mi 4 0] (seq (sr [mi 5 0] (block 0 (loop zym))) (seq (cm [mt 25 0,mt 26 0,nck 27 (t 26),ft 28 3 27,lf 29 1 28,lg 30 2 3,bsl 31 2 [t 30],ap 32 2 32 29 31,nck 33 (t 25),ft 34 3 33,su 1 34 32]) (seq (sr [mt 35 0,nck 36 (t 35),ft 37 3 36,lf 38 1 37,ln 39 38,bi 40 .gtr 39 40] (ci 40 (cD [mt 41 0,nck 42 (t 41),ft 43 5 42,st 1 (t 43) true]))) (rr [mt 44 0,nck 45 (t 44),ft 46 3 45,lf 47 1 46,ln 48 47,bi 49 .sub 48 1,mt 4 49])))),[.t 4]⟩
def zQK:bL:=⟨12,sr [alloc 4 du] (rr [mt 5 0,mt 6 1,ka 7 HI 6,build 8 du [(0,1,.c (.d (.int .i64 3))),(1,1,t 7)],build 9 du [(0,1,.c (.d (.int .i64 1)))],bsl 10 4 [t 8,t 9],kb 11 H8 5 10,su 4 4 11]),[.c 4 true 4]⟩
def zYy:bL:=⟨65,sr [box 1 (t 0),alloc 2 xV] (sr [ft 7 0 1,lg 8 2 7,alloc 3 kE,su 2 3 8] (seq (sr [lg 9 2 3,ka 10 AQ 9,bi 11 .neq 10 0] (ci 11 (seq (cm [lg 12 2 3,ka 13 yxX 12,ft 14 2 1,lf 15 1 14,build 16 xV [(0,2,t 13),(2,1,t 15)],su 3 2 16]) ret))) (seq (sr [ft 17 0 3,lf 18 1 17,ln 19 18,bi 20 .eql 19 0] (ci 20 (rr [ft 21 1 3,lf 22 1 21,bi 23 .eql 22 0,mt 24 23,(gf 24,ft 25 2 1),(gf 24,lf 26 1 25),(gf 24,nu 27 26),(gf 24,mt 28 27),(gt 28,ft 29 1 3),(gt 28,lf 30 1 29),(gt 28,bi 31 .lss 30 0),(gf 24,an 32 28 31),ou 33 24 32,ka 34 Hz 33,su 3 2 34]))) (sr [lg 35 2 3,kc 36 Hy [t 35,.c (.d (.int .i64 0))],mt 4 36] (seq (sr [ft 37 2 1,lf 38 1 37,mt 39 38,(gt 39,ft 40 1 3),(gt 39,lf 41 1 40),(gt 39,mt 42 4),(gt 39,bt 43 .rem 41 42),(gt 39,bi 44 .neq 43 0),an 45 39 44] (ci 45 (rr [kc 46 Hz [.c (.d (.bool false))],su 3 2 46]))) (sr [ft 48 1 3,lf 49 1 48,bin 50 .sub (0:Int) (t 49),mt 51 4,kb 52 Ko 50 51,mt 47 52,eu 53 47 0,eu 54 47 1,mt 5 53,mt 6 54] (seq (cm [ft 55 0 3,lf 56 1 55,mt 57 4,kb 58 Ed 56 57,mt 59 5,bin 60 .sub (0:Int) (t 59),build 61 kE [(0,1,t 58),(1,1,t 60)],ft 62 2 1,lf 63 1 62,build 64 xV [(0,2,t 61),(2,1,t 63)],su 3 2 64]) ret))))))),[.c 2 true 3]⟩
def zJd:bL:=⟨15,sr [box 1 (t 0),alloc 2 kE,mv 3 false] (seq (sr [lg 4 2 1,ka 5 Ia 4,bi 6 .neq 5 0] (ci 6 (rr [build 7 kE [],su 2 2 7,mv 3 false]))) (seq (cm [bsl 8 2 [],ft 9 0 1,lf 10 1 9,ap 11 2 24 8 10,ft 12 1 1,lf 13 1 12,build 14 kE [(0,1,t 11),(1,1,t 13)],su 2 2 14,mv 3 true]) ret)),[.c 2 true 2,.t 3]⟩
def yyr:bL:=⟨39,sr [mi 4 0,mv 5 false] (seq (sr [mt 8 0,ka 9 NZ 8,nu 10 9,mt 11 10,(gf 11,mt 12 1),(gf 11,.call (some 13) NZ [t 12]),(gf 11,nu 14 13),ou 15 11 14] (ci 15 (rr [mi 4 0,mv 5 false]))) (seq (sr [mt 16 0,bi 17 .eql 16 0,mt 18 17,(gf 18,mt 19 1),(gf 18,bi 20 .eql 19 0),ou 21 18 20] (ci 21 (rr [mi 4 0,mv 5 true]))) (sr [mt 22 0,mt 6 22] (seq (sr [mt 23 6,bi 24 .lss 23 0] (ci 24 (cD [mt 25 6,bin 26 .sub (0:Int) (t 25),mt 6 26]))) (sr [mt 27 1,mt 7 27] (seq (sr [mt 28 7,bi 29 .lss 28 0] (ci 29 (cD [mt 30 7,bin 31 .sub (0:Int) (t 30),mt 7 31]))) (seq (sr [mt 32 6,mt 33 7,bin 34 .quo (1000000000000:Int) (t 33),bt 35 .gtr 32 34] (ci 35 (rr [mi 4 0,mv 5 false]))) (rr [mt 36 0,mt 37 1,bt 38 .mul 36 37,mt 4 38,mv 5 true])))))))),[.t 4,.t 5]⟩
def yw5:bL:=⟨9,sr [mv 2 false] (rr [mt 3 0,bq 4 .geq 3 (-1000000000000:Int),mt 5 4,(gt 5,mt 6 0),(gt 5,bi 7 .leq 6 1000000000000),an 8 5 7,mt 2 8]),[.t 2]⟩
def zQn:bL:=⟨10,sr [mi 2 0] (seq (sr [mt 3 0,bq 4 .eql 3 (-9223372036854775808:Int)] (ci 4 (rr [mi 2 1000000000000]))) (seq (sr [mt 5 0,bi 6 .lss 5 0] (ci 6 (rr [mt 7 0,bin 8 .sub (0:Int) (t 7),mt 2 8]))) (rr [mt 9 0,mt 2 9]))),[.t 2]⟩
def yyo:bL:=⟨11,sr [mi 2 0] (seq (sr [mt 3 0,bi 4 .geq 3 0] (ci 4 (rr [mt 5 0,mt 2 5]))) (seq (sr [mt 6 0,bin 7 .sub (0:Int) (t 6),bi 8 .lss 7 0] (ci 8 (rr [mi 2 1000000000000]))) (rr [mt 9 0,bin 10 .sub (0:Int) (t 9),mt 2 10]))),[.t 2]⟩
def zXW:bL:=⟨14,sr [mi 4 0,mv 5 false] (seq (sr [mt 6 1,nu 7 6,mt 8 7,(gf 8,mt 9 0),(gf 8,.call (some 10) vo [t 9]),(gf 8,nu 11 10),ou 12 8 11] (ci 12 (rr [mi 4 0,mv 5 false]))) (rr [mt 13 0,mt 4 13,mv 5 true])),[.t 4,.t 5]⟩
def UN:AC:=sr [bt 12 .lss 11 10] (seq (cn 12 skip (exit 0)) (seq (block 1 (sr [ix 13 4 9 11,lg 14 4 13,alloc 8 du,su 4 8 14] (sr [mt 15 2,lg 16 4 4,lg 17 4 8,call (some 18) (t 15) [t 16,t 17]] (ci 18 (rr [mv 6 true]))))) (cD [bi 19 .add 11 1,mt 11 19])))
def zvX:bL:=⟨20,sr [box 4 (t 1),mv 6 false] (seq (sr [mt 9 0,ln 10 9,mi 11 0] (block 0 (loop UN))) (rr [mv 6 false])),[.t 6]⟩
def zZB:AC:=sr [bt 10 .lss 9 8] (seq (cn 10 skip (exit 0)) (seq (block 1 (sr [ix 11 4 7 9,lg 12 4 11,alloc 6 du,su 4 6 12] (sr [lg 13 4 6,lg 14 4 3,kb 15 Lk 13 14] (ci 15 (rr [mv 4 true]))))) (cD [bi 16 .add 9 1,mt 9 16])))
def yyu:bL:=⟨17,sr [box 3 (t 1),mv 4 false] (seq (sr [mt 7 0,ln 8 7,mi 9 0] (block 0 (loop zZB))) (rr [mv 4 false])),[.t 4]⟩
def zV9:bL:=⟨13,sr [mv 2 false] (rr [mt 3 0,bi 4 .eql 3 3,mt 5 4,(gf 5,mt 6 0),(gf 5,bi 7 .eql 6 4),ou 8 5 7,mt 9 8,(gf 9,mt 10 0),(gf 9,bi 11 .eql 10 5),ou 12 9 11,mt 2 12]),[.t 2]⟩
def zQy:bL:=⟨28,sr [mv 4 false] (seq (sr [mt 5 0] (block 0 (seq (sr [bi 7 .eql 5 1,mt 6 7] (cn 6 skip (sr [bi 8 .eql 5 2,mt 6 8] (cn 6 skip (cD [bi 9 .eql 5 3,mt 6 9]))))) (cn 6 (rr [mt 10 1,bi 11 .eql 10 0,mt 4 11]) (seq (sr [bi 13 .eql 5 4,mt 12 13] (cn 12 skip (cD [bi 14 .eql 5 5,mt 12 14]))) (cn 12 (rr [mt 15 1,bi 16 .geq 15 1,mt 17 16,(gt 17,mt 18 1),(gt 17,bi 19 .leq 18 24),an 20 17 19,mt 4 20]) (seq (sr [bi 22 .eql 5 9,mt 21 22] (cn 21 skip (cD [bi 23 .eql 5 14,mt 21 23]))) (ci 21 (rr [mt 24 1,bi 25 .eql 24 1,mt 4 25]))))))))) (rr [mt 26 1,bi 27 .eql 26 2,mt 4 27])),[.t 4]⟩
def zkB:bL:=⟨38,sr [box 1 (t 0),mv 2 false] (seq (sr [ft 3 0 1,lf 4 1 3] (block 0 (sr [bi 6 .eql 4 3,mt 5 6] (cn 5 (rr [ft 7 1 1,lf 8 1 7,bq 9 .eql 8 (.c (.d (.str [118]))),mt 10 9,(gf 10,ft 11 1 1),(gf 10,lf 12 1 11),(gf 10,.call (some 13) Ui [t 12]),(gf 10,bi 14 .eql 13 0),ou 15 10 14,mt 2 15]) (sr [bi 17 .eql 4 4,mt 16 17] (cn 16 (rr [ft 18 1 1,lf 19 1 18,bq 20 .eql 19 (.c (.d (.str [116,97,103]))),mt 21 20,(gf 21,ft 22 1 1),(gf 21,lf 23 1 22),(gf 21,bq 24 .eql 23 (.c (.d (.str [118,97,108])))),ou 25 21 24,mt 26 25,(gf 26,ft 27 1 1),(gf 26,lf 28 1 27),(gf 26,.call (some 29) Ui [t 28]),(gf 26,bi 30 .eql 29 0),ou 31 26 30,mt 2 31]) (sr [bi 33 .eql 4 5,mt 32 33] (ci 32 (rr [ft 34 1 1,lf 35 1 34,ka 36 Ui 35,bi 37 .eql 36 0,mt 2 37]))))))))) (rr [mv 2 true])),[.t 2]⟩
def zZz:AC:=seq (sr [mt 11 6,bi 12 .geq 11 0] (cn 12 skip (exit 0))) (seq (block 1 (sr [ft 15 0 2,lf 16 1 15,mt 17 6,ix 18 2 16 17,ft 19 0 18,lf 20 1 19,mt 21 1,bt 22 .eql 20 21] (ci 22 (rr [ft 23 0 2,lf 24 1 23,mt 25 6,ix 26 2 24 25,ft 27 1 26,lf 28 1 27,mt 4 28,mv 5 true])))) (cD [mt 13 6,bi 14 .sub 13 1,mt 6 14]))
def yys:bL:=⟨29,sr [box 2 (t 0),mv 4 (.c (.d (.str []))),mv 5 false] (seq (sr [ft 7 0 2,lf 8 1 7,ln 9 8,bi 10 .sub 9 1,mt 6 10] (block 0 (loop zZz))) (rr [mv 4 (.c (.d (.str []))),mv 5 false])),[.t 4,.t 5]⟩
def yyw:bL:=⟨52,sr [box 3 (t 0),mv 6 (.c (.d (.str []))),mi 7 0] (sr [lg 11 3 3,mt 12 1,kb 13 zXy 11 12,mt 10 13,eu 14 10 0,eu 15 10 1,alloc 8 BE,su 3 8 14,mt 9 15] (seq (sr [mt 16 9,nu 17 16] (ci 17 (rr [mv 6 (.c (.d (.str []))),mi 7 5]))) (seq (sr [mt 18 1,bq 19 .eql 18 (.c (.d (.str [116,97,103])))] (ci 19 (seq (sr [mt 20 2,ln 21 20,bi 22 .neq 21 1] (ci 22 (rr [mv 6 (.c (.d (.str []))),mi 7 13]))) (seq (sr [mt 23 2,idx 24 1 (t 23) (0:Int),lf 25 1 24,bq 26 .eql 25 (.c (.d (.str [73,110,116]))),mt 27 26,(gf 27,mt 28 2),(gf 27,.idx 29 1 (t 28) (0:Int)),(gf 27,lf 30 1 29),(gf 27,bq 31 .eql 30 (.c (.d (.str [66,111,111,108])))),ou 32 27 31,mt 33 32,(gf 33,mt 34 2),(gf 33,.idx 35 1 (t 34) (0:Int)),(gf 33,lf 36 1 35),(gf 33,bq 37 .eql 36 (.c (.d (.str [67,101,108,108])))),ou 38 33 37] (ci 38 (rr [mv 6 (.c (.d (.str []))),mi 7 11]))) (rr [mv 6 (.c (.d (.str [73,110,116]))),mi 7 0]))))) (seq (sr [mt 39 2,ln 40 39,ft 41 1 8,lf 42 1 41,ln 43 42,bt 44 .neq 40 43] (ci 44 (rr [mv 6 (.c (.d (.str []))),mi 7 13]))) (seq (sr [mt 45 2,ft 46 1 8,lf 47 1 46,kb 48 zwu 45 47,nu 49 48] (ci 49 (rr [mv 6 (.c (.d (.str []))),mi 7 11]))) (rr [ft 50 2 8,lf 51 1 50,mt 6 51,mi 7 0])))))),[.t 6,.t 7]⟩
def zqp:AC:=seq (sr [mt 25 10,mt 26 2,ln 27 26,bt 28 .lss 25 27] (cn 28 skip (exit 0))) (seq (block 1 (seq (cm [mt 31 2,mt 32 10,ix 33 1 31 32,lf 34 1 33,ft 35 1 8,lf 36 1 35,mt 37 10,ix 38 2 36 37,ft 39 1 38,lf 40 1 39,bt 41 .neq 34 40]) (ci 41 (rr [mv 6 (.c (.d (.str []))),mi 7 11])))) (cD [mt 29 10,bi 30 .add 29 1,mt 10 30]))
def zQD:bL:=⟨42,sr [box 3 (t 0),mv 6 (.c (.d (.str []))),mi 7 0] (sr [lg 12 3 3,mt 13 1,kb 14 zXz 12 13,mt 11 14,eu 15 11 0,eu 16 11 1,alloc 8 AP,su 2 8 15,mt 9 16] (seq (sr [mt 17 9,nu 18 17] (ci 18 (rr [mv 6 (.c (.d (.str []))),mi 7 5]))) (seq (sr [mt 19 2,ln 20 19,ft 21 1 8,lf 22 1 21,ln 23 22,bt 24 .neq 20 23] (ci 24 (rr [mv 6 (.c (.d (.str []))),mi 7 13]))) (seq (sr [mi 10 0] (block 0 (loop zqp))) (rr [mv 6 (.c (.d (.str [66,111,111,108]))),mi 7 0]))))),[.t 6,.t 7]⟩
def zYe:bL:=⟨31,sr [mv 4 (.c (.d (.str []))),mi 5 0] (seq (sr [mt 6 0] (block 0 (seq (sr [bi 10 .eql 6 6,mt 9 10] (cn 9 skip (sr [bi 11 .eql 6 7,mt 9 11] (cn 9 skip (sr [bi 12 .eql 6 8,mt 9 12] (cn 9 skip (cD [bi 13 .eql 6 9,mt 9 13]))))))) (cn 9 (sr [mt 14 1,kc 15 TQ [t 14,.c (.d (.str [73,110,116]))]] (ci 15 (rr [mv 4 (.c (.d (.str [73,110,116]))),mi 5 0]))) (seq (sr [bi 17 .eql 6 10,mt 16 17] (cn 16 skip (cD [bi 18 .eql 6 11,mt 16 18]))) (cn 16 (seq (cm [mt 19 1,idx 20 1 (t 19) (0:Int),lf 21 1 20,mt 22 1,idx 23 1 (t 22) (1:Int),lf 24 1 23,bt 25 .eql 21 24]) (ci 25 (rr [mv 4 (.c (.d (.str [66,111,111,108]))),mi 5 0]))) (seq (sr [bi 27 .eql 6 12,mt 26 27] (cn 26 skip (cD [bi 28 .eql 6 13,mt 26 28]))) (cn 26 (sr [mt 29 1,kc 30 TQ [t 29,.c (.d (.str [73,110,116]))]] (ci 30 (rr [mv 4 (.c (.d (.str [66,111,111,108]))),mi 5 0]))) (sr [mt 7 1,kc 8 TQ [t 7,.c (.d (.str [66,111,111,108]))]] (ci 8 (rr [mv 4 (.c (.d (.str [66,111,111,108]))),mi 5 0]))))))))))) (rr [mv 4 (.c (.d (.str []))),mi 5 11])),[.t 4,.t 5]⟩
def Ub:AC:=sr [bt 20 .lss 19 18] (seq (cn 20 skip (exit 1)) (seq (block 2 (sr [ix 21 3 17 19,lg 22 3 21,alloc 7 BE,su 3 7 22] (sr [ft 23 0 7,lf 24 1 23,mt 25 1,bt 26 .eql 24 25] (ci 26 (sr [ft 27 1 7,lf 28 1 27,ka 29 Lr 28,ft 30 1 7,su 1 30 29] (rr [lg 31 3 7,su 3 4 31,mv 5 true])))))) (cD [bi 32 .add 19 1,mt 19 32])))
def zJf:bL:=⟨34,sr [box 2 (t 0),alloc 4 BE,mv 5 false] (seq (sr [mt 8 1] (block 0 (sr [bq 10 .eql 8 (.c (.d (.str [116,97,103]))),mt 9 10] (cn 9 (rr [build 11 BE [(0,1,.c (.d (.str [116,97,103]))),(2,1,.c (.d (.str [73,110,116])))],su 3 4 11,mv 5 true]) (sr [bq 13 .eql 8 (.c (.d (.str [118,97,108]))),mt 12 13] (ci 12 (rr [bsl 14 1 [.c (.d (.str [67,101,108,108]))],build 15 BE [(0,1,.c (.d (.str [118,97,108]))),(1,1,t 14),(2,1,.c (.d (.str [73,110,116])))],su 3 4 15,mv 5 true]))))))) (seq (sr [ft 16 1 2,lf 17 1 16,ln 18 17,mi 19 0] (block 1 (loop Ub))) (rr [build 33 BE [],su 3 4 33,mv 5 false]))),[.c 4 true 3,.t 5]⟩
def zYg:bL:=⟨13,sr [mv 2 false] (rr [mt 3 0,bq 4 .eql 3 (.c (.d (.str [73,110,116]))),mt 5 4,(gf 5,mt 6 0),(gf 5,bq 7 .eql 6 (.c (.d (.str [66,111,111,108])))),ou 8 5 7,mt 9 8,(gf 9,mt 10 0),(gf 9,bq 11 .eql 10 (.c (.d (.str [67,101,108,108])))),ou 12 9 11,mt 2 12]),[.t 2]⟩
def T6:AC:=sr [bt 12 .lss 11 10] (seq (cn 12 skip (exit 0)) (seq (block 1 (sr [ix 13 2 9 11,lg 14 2 13,alloc 7 AP,su 2 7 14] (sr [ft 15 0 7,lf 16 1 15,mt 17 1,bt 18 .eql 16 17] (ci 18 (sr [ft 19 1 7,lf 20 1 19,ka 21 Ls 20,ft 22 1 7,su 1 22 21] (rr [lg 23 2 7,su 2 4 23,mv 5 true])))))) (cD [bi 24 .add 11 1,mt 11 24])))
def zJg:bL:=⟨26,sr [box 2 (t 0),alloc 4 AP,mv 5 false] (seq (sr [ft 8 2 2,lf 9 1 8,ln 10 9,mi 11 0] (block 0 (loop T6))) (rr [build 25 AP [],su 2 4 25,mv 5 false])),[.c 4 true 2,.t 5]⟩
def zX2:bL:=⟨4,sr [box 1 (t 0),mv 2 (.c (.d (.oB)))] (rr [mkf 3 CC [t 1],mt 2 3]),[.t 2]⟩
def zjB:bL:=⟨10,sr [mv 2 false] (seq (cm [mt 3 0,idx 4 1 (t 3) (0:Int),lf 5 1 4,mt 6 0,idx 7 1 (t 6) (1:Int),lf 8 1 7,bt 9 .eql 5 8,mt 2 9]) ret),[.t 2]⟩
def T9:AC:=seq (sr [mt 6 5,mt 7 0,ls 8 7,bt 9 .lss 6 8] (cn 9 skip (exit 0))) (seq (block 1 (sr [mt 12 0,mt 13 5,sidx 14 (t 12) (t 13),bq 15 .eql 14 (.c (.d (.int .u8 46)))] (ci 15 (seq (cm [mt 16 0,mt 17 5,sto 18 (t 16) (0:Int) (t 17),mt 19 0,mt 20 5,bi 21 .add 20 1,sfrom 22 (t 19) (t 21),mt 2 18,mt 3 22,mv 4 true]) ret)))) (cD [mt 10 5,bi 11 .add 10 1,mt 5 11]))
def zVS:bL:=⟨24,sr [mv 2 (.c (.d (.str []))),mv 3 (.c (.d (.str []))),mv 4 false] (seq (sr [mi 5 0] (block 0 (loop T9))) (rr [mt 23 0,mt 2 23,mv 3 (.c (.d (.str []))),mv 4 false])),[.t 2,.t 3,.t 4]⟩
def Ur:AC:=seq (sr [mt 17 3,mt 18 0,ls 19 18,bt 20 .lss 17 19] (cn 20 skip (exit 0))) (seq (block 1 (sr [mt 23 0,mt 24 3,sidx 25 (t 23) (t 24),ka 26 D5 25,nu 27 26,mt 28 27,(gt 28,mt 29 0),(gt 28,mt 30 3),(gt 28,.sidx 31 (t 29) (t 30)),(gt 28,.call (some 32) F4 [t 31]),(gt 28,nu 33 32),an 34 28 33,mt 35 34,(gt 35,mt 36 0),(gt 35,mt 37 3),(gt 35,.sidx 38 (t 36) (t 37)),(gt 35,bq 39 .neq 38 (.c (.d (.int .u8 95)))),an 40 35 39] (ci 40 (rr [mv 2 false])))) (cD [mt 21 3,bi 22 .add 21 1,mt 3 22]))
def zKa:bL:=⟨41,sr [mv 2 false] (seq (sr [mt 4 0,ka 5 F5 4,nu 6 5,mt 7 6,(gf 7,mt 8 0),(gf 7,.sidx 9 (t 8) (0:Int)),(gf 7,.call (some 10) D5 [t 9]),(gf 7,nu 11 10),ou 12 7 11,mt 13 12,(gf 13,mt 14 0),(gf 13,.call (some 15) Le [t 14]),ou 16 13 15] (ci 16 (rr [mv 2 false]))) (seq (sr [mi 3 1] (block 0 (loop Ur))) (rr [mv 2 true]))),[.t 2]⟩
def zXV:bL:=⟨31,sr [mv 2 false] (seq (sr [mt 3 0,ka 4 F5 3,nu 5 4,mt 6 5,(gf 6,mt 7 0),(gf 6,.sidx 8 (t 7) (0:Int)),(gf 6,.call (some 9) Hu [t 8]),(gf 6,nu 10 9),ou 11 6 10,mt 12 11,(gf 12,mt 13 0),(gf 12,.call (some 14) HF [t 13]),(gf 12,nu 15 14),ou 16 12 15] (ci 16 (rr [mv 2 false]))) (rr [mt 17 0,bq 18 .neq 17 (.c (.d (.str [73,110,116]))),mt 19 18,(gt 19,mt 20 0),(gt 19,bq 21 .neq 20 (.c (.d (.str [66,111,111,108])))),an 22 19 21,mt 23 22,(gt 23,mt 24 0),(gt 23,bq 25 .neq 24 (.c (.d (.str [67,101,108,108])))),an 26 23 25,mt 27 26,(gt 27,mt 28 0),(gt 27,bq 29 .neq 28 (.c (.d (.str [70,117,110])))),an 30 27 29,mt 2 30])),[.t 2]⟩
def zXT:bL:=⟨11,sr [mv 2 false] (rr [mt 3 0,ls 4 3,bi 5 .geq 4 1,mt 6 5,(gt 6,mt 7 0),(gt 6,ls 8 7),(gt 6,bi 9 .leq 8 24),an 10 6 9,mt 2 10]),[.t 2]⟩
def UR:AC:=seq (sr [mt 4 3,mt 5 0,ls 6 5,bt 7 .lss 4 6] (cn 7 skip (exit 0))) (seq (block 1 (sr [mt 10 0,mt 11 3,sidx 12 (t 10) (t 11),ka 13 D5 12,nu 14 13,mt 15 14,(gt 15,mt 16 0),(gt 15,mt 17 3),(gt 15,.sidx 18 (t 16) (t 17)),(gt 15,.call (some 19) Hu [t 18]),(gt 15,nu 20 19),an 21 15 20,mt 22 21,(gt 22,mt 23 0),(gt 22,mt 24 3),(gt 22,.sidx 25 (t 23) (t 24)),(gt 22,.call (some 26) F4 [t 25]),(gt 22,nu 27 26),an 28 22 27] (ci 28 (rr [mv 2 false])))) (cD [mt 8 3,bi 9 .add 8 1,mt 3 9]))
def zvx:bL:=⟨29,sr [mv 2 false] (seq (sr [mi 3 0] (block 0 (loop UR))) (rr [mv 2 true])),[.t 2]⟩
def Us:AC:=seq (sr [mt 4 3,mt 5 0,ls 6 5,bt 7 .lss 4 6] (cn 7 skip (exit 0))) (seq (block 1 (sr [mt 10 0,mt 11 3,sidx 12 (t 10) (t 11),ka 13 D5 12,nu 14 13,mt 15 14,(gt 15,mt 16 3),(gt 15,bi 17 .eql 16 0),(gt 15,mt 18 17),(gf 18,mt 19 0),(gf 18,mt 20 3),(gf 18,.sidx 21 (t 19) (t 20)),(gf 18,.call (some 22) F4 [t 21]),(gf 18,nu 23 22),(gf 18,mt 24 23),(gt 24,mt 25 0),(gt 24,mt 26 3),(gt 24,.sidx 27 (t 25) (t 26)),(gt 24,bq 28 .neq 27 (.c (.d (.int .u8 95)))),(gf 18,an 29 24 28),(gt 15,ou 30 18 29),an 31 15 30] (ci 31 (rr [mv 2 false])))) (cD [mt 8 3,bi 9 .add 8 1,mt 3 9]))
def zKb:bL:=⟨32,sr [mv 2 false] (seq (sr [mi 3 0] (block 0 (loop Us))) (rr [mv 2 true])),[.t 2]⟩
def zkh:bL:=⟨24,sr [box 3 (t 1),alloc 4 du] (seq (sr [ft 8 0 3,lf 9 1 8,ln 10 9,bi 11 .eql 10 0] (ci 11 (rr [ft 12 1 3,lf 13 1 12,bi 14 .eql 13 0,ka 15 D4 14,su 4 4 15]))) (sr [mt 17 0,lg 18 2 3,kd 19 CD [t 17,t 18],mt 16 19,eu 20 16 0,eu 21 16 1,eu 22 16 2,alloc 5 du,alloc 6 du,su 4 5 20,su 4 6 21,mt 7 22] (rr [lg 23 4 5,su 4 4 23]))),[.c 4 true 4]⟩
def zVM:bL:=⟨6,sr [box 1 (t 0),alloc 2 du] (rr [lg 3 4 1,bsl 4 4 [t 3],build 5 du [(0,1,.c (.d (.int .i64 14))),(3,1,t 4)],su 4 2 5]),[.c 2 true 4]⟩
def F9:bL:=⟨96,sr [box 3 (t 1),alloc 4 kE] (seq (sr [ft 8 0 3,lf 9 1 8] (block 0 (sr [bi 11 .eql 9 1,mt 10 11] (cn 10 (rr [ft 12 2 3,lf 13 1 12,build 14 kE [(1,1,t 13)],su 2 4 14]) (sr [bi 16 .eql 9 6,mt 15 16] (cn 15 (sr [mt 17 0,ft 18 3 3,lf 19 1 18,idx 20 4 (t 19) (0:Int),lg 21 4 20,kd 22 yw [t 17,t 21],alloc 5 kE,su 2 5 22] (seq (.lL [mt 23 0,mt 25 0,ft 26 3 3,lf 27 1 26,idx 28 4 (t 27) (1:Int),lg 29 4 28] (lg 24 2 5) (kd 30 yw [t 25,t 29]) [kb 31 xY 24 30,eu 32 31 0,eu 33 31 1,kd 34 uX [t 23,t 32,t 33],su 2 4 34]) ret)) (sr [bi 36 .eql 9 7,mt 35 36] (cn 35 (sr [mt 37 0,ft 38 3 3,lf 39 1 38,idx 40 4 (t 39) (0:Int),lg 41 4 40,kd 42 yw [t 37,t 41],alloc 6 kE,su 2 6 42] (sr [mt 43 0,ft 44 3 3,lf 45 1 44,idx 46 4 (t 45) (1:Int),lg 47 4 46,kd 48 yw [t 43,t 47],alloc 7 kE,su 2 7 48] (seq (.lL [mt 49 0,mt 51 0,lg 52 2 7,kc 53 Bs [t 52,.c (.d (.int .i64 (-1)))],eu 54 53 0,eu 55 53 1] (lg 50 2 6) (kd 56 uX [t 51,t 54,t 55]) [kb 57 xY 50 56,eu 58 57 0,eu 59 57 1,kd 60 uX [t 49,t 58,t 59],su 2 4 60]) ret))) (sr [bi 62 .eql 9 8,mt 61 62] (cn 61 (seq (.scope (seq (.pw [71,74] [mt 63 0,mt 64 0,ft 65 3 3,lf 66 1 65,idx 67 4 (t 66) (1:Int),lg 68 4 67,kd 69 yw [t 64,t 68],ft 70 3 3,lf 71 1 70,idx 72 4 (t 71) (0:Int),ft 73 2 72,lf 74 1 73,kb 75 Bs 69 74,eu 76 75 0,eu 77 75 1,kd 78 uX [t 63,t 76,t 77],su 2 4 78]) skip)) ret) (sr [bi 80 .eql 9 9,mt 79 80] (ci 79 (rr [mt 81 0,mt 82 0,ft 83 3 3,lf 84 1 83,idx 85 4 (t 84) (0:Int),lg 86 4 85,kd 87 yw [t 82,t 86],kc 88 Bs [t 87,.c (.d (.int .i64 (-1)))],eu 89 88 0,eu 90 88 1,kd 91 uX [t 81,t 89,t 90],su 2 4 91]))))))))))))) (rr [mt 92 0,lg 93 4 3,ka 94 BI 93,kd 95 Bu [t 92,t 94],su 2 4 95])),[.c 4 true 2]⟩
def zXQ:bL:=⟨6,sr [alloc 2 du] (seq (sr [mt 3 0] (ci 3 (rr [build 4 du [(0,1,.c (.d (.int .i64 2))),(2,1,.c (.d (.int .i64 1)))],su 4 2 4]))) (rr [build 5 du [(0,1,.c (.d (.int .i64 2)))],su 4 2 5])),[.c 2 true 4]⟩
def zwK:bL:=⟨30,sr [box 3 (t 1),alloc 4 du] (seq (sr [ft 8 0 3,lf 9 1 8,ln 10 9,bi 11 .eql 10 0] (ci 11 (rr [ft 12 1 3,lf 13 1 12,bi 14 .lss 13 0,ka 15 D4 14,su 4 4 15]))) (sr [mt 17 0,lg 18 2 3,kd 19 CD [t 17,t 18],mt 16 19,eu 20 16 0,eu 21 16 1,eu 22 16 2,alloc 5 du,alloc 6 du,su 4 5 20,su 4 6 21,mt 7 22] (seq (sr [mt 23 7] (ci 23 (rr [lg 24 4 6,ka 25 Cy 24,su 4 4 25]))) (seq (cm [lg 26 4 6,lg 27 4 5,ka 28 Cy 27,kc 29 yr [.c (.d (.int .i64 15)),t 26,t 28],su 4 4 29]) ret)))),[.c 4 true 4]⟩
def UM:bL:=⟨65,sr [box 3 (t 1),alloc 4 du,alloc 5 du,mv 6 false] (sr [lg 15 2 3,ka 16 KO 15,mt 14 16,eu 17 14 0,eu 18 14 1,alloc 7 kE,su 2 7 17,mt 8 18] (sr [lg 19 2 7,ka 20 SW 19,mt 9 20] (sr [mt 22 0,nck 23 (t 22),ft 24 3 23,lf 25 1 24,mt 26 9,mget 27 true jt pS (.str []) (MV.one (.int .i64 0)) (t 25) (t 26),mt 21 27,eu 28 21 0,eu 29 21 1,mt 10 28,mt 11 29] (seq (sr [mt 30 11,nu 31 30] (ci 31 (sr [mt 32 0,nck 33 (t 32),ft 34 4 33,lf 35 1 34,ln 36 35,mt 10 36] (sr [mt 37 0,nck 38 (t 37),ft 39 3 38,lf 40 1 39,mt 41 9,mt 42 10,mput jt pS (.str []) (t 40) (t 41) (t 42)] (cm [mt 43 0,mt 44 0,nck 45 (t 44),ft 46 4 45,lf 47 1 46,lg 48 2 7,bsl 49 2 [t 48],ap 50 2 32 47 49,nck 51 (t 43),ft 52 4 51,su 1 52 50]))))) (sr [mt 53 10,ka 54 strconv_Itoa 53,build 55 du [(0,1,.c (.d (.int .i64 3))),(1,1,t 54)],alloc 12 du,su 4 12 55] (sr [build 56 du [(0,1,.c (.d (.int .i64 1)))],alloc 13 du,su 4 13 56] (seq (cm [lg 57 4 12,lg 58 4 13,kc 59 yr [.c (.d (.int .i64 10)),t 57,t 58],lg 60 4 12,lg 61 4 13,kc 62 yr [.c (.d (.int .i64 13)),t 60,t 61],mt 63 8,bi 64 .lss 63 0,su 4 4 59,su 4 5 62,mt 6 64]) ret))))))),[.c 4 true 4,.c 5 true 4,.t 6]⟩
def zYA:bL:=⟨9,sr [box 1 (t 0),alloc 2 kE,mv 3 false] (seq (sr [lg 4 2 1,ka 5 AQ 4,bi 6 .neq 5 0] (ci 6 (rr [build 7 kE [],su 2 2 7,mv 3 false]))) (rr [lg 8 2 1,su 2 2 8,mv 3 true])),[.c 2 true 2,.t 3]⟩
def UU:AC:=sr [bt 14 .lss 13 12] (seq (cn 14 skip (exit 0)) (seq (block 1 (sr [ix 15 2 11 13,lg 16 2 15,alloc 8 nO,su 2 8 16] (sr [mt 18 1,lg 19 2 8,call (some 20) (t 18) [t 19],mt 17 20,eu 21 17 0,eu 22 17 1,alloc 9 nO,su 2 9 21,mt 10 22] (seq (sr [mt 23 10,nu 24 23] (ci 24 (rr [mv 4 (.c (.full [])),mv 5 false]))) (cD [mt 25 6,lg 26 2 9,bsl 27 2 [t 26],ap 28 2 24 25 27,mt 6 28]))))) (cD [bi 29 .add 13 1,mt 13 29])))
def zkz:bL:=⟨31,sr [mv 4 (.c (.full [])),mv 5 false] (sr [mv 6 (.c (.full []))] (seq (sr [mt 11 0,ln 12 11,mi 13 0] (block 0 (loop UU))) (rr [mt 30 6,mt 4 30,mv 5 true]))),[.t 4,.t 5]⟩
def zqW:bL:=⟨19,sr [box 2 (t 0),alloc 3 nO,mv 4 false] (sr [ft 8 1 2,lf 9 1 8,lf 10 1 1,kb 11 Em 9 10,mt 7 11,eu 12 7 0,eu 13 7 1,mt 5 12,mt 6 13] (rr [ft 14 0 2,lf 15 1 14,mt 16 5,build 17 nO [(0,1,t 15),(1,1,t 16)],mt 18 6,su 2 3 17,mt 4 18])),[.c 3 true 2,.t 4]⟩
def Ph:bL:=⟨118,sr [box 1 (t 0),alloc 2 kE,mv 3 false] (seq (sr [ft 14 0 1,lf 15 1 14] (block 0 (sr [bi 17 .eql 15 1,mt 16 17] (cn 16 (sr [ft 18 2 1,lf 19 1 18,build 20 kE [(1,1,t 19)],alloc 4 kE,su 2 4 20] (seq (cm [lg 21 2 4,lg 22 2 4,ka 23 Ia 22,bi 24 .eql 23 0,su 2 2 21,mt 3 24]) ret)) (sr [bi 26 .eql 15 3,mt 25 26] (cn 25 (sr [ft 27 1 1,lf 28 1 27,build 29 nO [(0,1,t 28),(1,1,.c (.d (.int .i64 1)))],bsl 30 2 [t 29],build 31 kE [(0,1,t 30)],alloc 5 kE,su 2 5 31] (seq (cm [lg 32 2 5,lg 33 2 5,ka 34 Ia 33,bi 35 .eql 34 0,su 2 2 32,mt 3 35]) ret)) (sr [bi 37 .eql 15 9,mt 36 37] (cn 36 (sr [ft 39 3 1,lf 40 1 39,idx 41 4 (t 40) (0:Int),lg 42 4 41,ka 43 Oy 42,mt 38 43,eu 44 38 0,eu 45 38 1,alloc 6 kE,su 2 6 44,mt 7 45] (seq (sr [mt 46 7,nu 47 46] (ci 47 (rr [build 48 kE [],su 2 2 48,mv 3 false]))) (rr [lg 49 2 6,kc 50 UH [t 49,.c (.d (.int .i64 (-1)))],eu 51 50 0,eu 52 50 1,su 2 2 51,mt 3 52]))) (sr [bi 54 .eql 15 8,mt 53 54] (cn 53 (sr [ft 56 3 1,lf 57 1 56,idx 58 4 (t 57) (1:Int),lg 59 4 58,ka 60 Oy 59,mt 55 60,eu 61 55 0,eu 62 55 1,alloc 8 kE,su 2 8 61,mt 9 62] (seq (sr [mt 63 9,nu 64 63] (ci 64 (rr [build 65 kE [],su 2 2 65,mv 3 false]))) (seq (cm [lg 66 2 8,ft 67 3 1,lf 68 1 67,idx 69 4 (t 68) (0:Int),ft 70 2 69,lf 71 1 70,kb 72 UH 66 71,eu 73 72 0,eu 74 72 1,su 2 2 73,mt 3 74]) ret))) (seq (sr [bi 76 .eql 15 6,mt 75 76] (cn 75 skip (cD [bi 77 .eql 15 7,mt 75 77]))) (ci 75 (sr [ft 79 3 1,lf 80 1 79,idx 81 4 (t 80) (0:Int),lg 82 4 81,ka 83 Oy 82,mt 78 83,eu 84 78 0,eu 85 78 1,alloc 10 kE,su 2 10 84,mt 11 85] (sr [ft 87 3 1,lf 88 1 87,idx 89 4 (t 88) (1:Int),lg 90 4 89,ka 91 Oy 90,mt 86 91,eu 92 86 0,eu 93 86 1,alloc 12 kE,su 2 12 92,mt 13 93] (seq (sr [mt 94 13,mt 95 94,(gt 95,ft 96 0 1),(gt 95,lf 97 1 96),(gt 95,bi 98 .eql 97 7),an 99 95 98] (ci 99 (cD [lg 101 2 12,kc 102 UH [t 101,.c (.d (.int .i64 (-1)))],mt 100 102,eu 103 100 0,eu 104 100 1,su 2 12 103,mt 13 104]))) (seq (sr [mt 105 11,nu 106 105,mt 107 106,(gf 107,mt 108 13),(gf 107,nu 109 108),ou 110 107 109] (ci 110 (rr [build 111 kE [],su 2 2 111,mv 3 false]))) (rr [lg 112 2 10,lg 113 2 12,kb 114 zY6 112 113,eu 115 114 0,eu 116 114 1,su 2 2 115,mt 3 116]))))))))))))))))) (rr [build 117 kE [],su 2 2 117,mv 3 false])),[.c 2 true 2,.t 3]⟩
def zqZ:bL:=⟨7,sr [alloc 2 xV] (seq (sr [mt 3 0] (ci 3 (rr [build 4 xV [],su 3 2 4]))) (rr [build 5 kE [(1,1,.c (.d (.int .i64 1)))],build 6 xV [(0,2,t 5)],su 3 2 6])),[.c 2 true 3]⟩
def UF:AC:=sr [bt 11 .lss 10 9] (seq (cn 11 skip (exit 0)) (seq (block 1 (sr [ix 12 2 8 10,lg 13 2 12,alloc 6 nO,su 2 6 13] (cD [mt 14 1,ft 15 1 6,lf 16 1 15,kb 17 G5 14 16,mt 1 17]))) (cD [bi 18 .add 10 1,mt 10 18])))
def zqY:bL:=⟨20,sr [box 2 (t 0),mi 4 0] (seq (sr [ft 7 0 2,lf 8 1 7,ln 9 8,mi 10 0] (block 0 (loop UF))) (rr [mt 19 1,mt 4 19])),[.t 4]⟩
def yyk:bL:=⟨18,sr [mi 4 0,mv 5 false] (sr [mt 10 0,mt 11 1,kb 12 KJ 10 11,mt 9 12,eu 13 9 0,eu 14 9 1,eu 15 9 2,mt 6 13,mt 7 14,mt 8 15] (rr [mt 16 6,mt 17 8,mt 4 16,mt 5 17])),[.t 4,.t 5]⟩
def Ud:bL:=⟨14,sr [box 3 (t 1),mv 4 (.c (.full []))] (sr [mt 8 0,mkf 9 CE [t 3],kb 10 HG 8 9,mt 7 10,eu 11 7 0,eu 12 7 1,mt 5 11,mt 6 12] (rr [mt 13 5,mt 4 13])),[.t 4]⟩
def zqg:AC:=sr [bt 38 .lss 37 36] (seq (cn 38 skip (exit 0)) (seq (block 1 (sr [ix 39 1 35 37,lf 40 1 39,mt 5 40] (sr [mt 41 5,ka 42 zXx 41,nu 43 42] (ci 43 (rr [mi 2 3]))))) (cD [bi 44 .add 37 1,mt 37 44])))
def zQo:bL:=⟨45,sr [mi 2 0] (seq (sr [mt 6 0,ls 7 6,bi 8 .gtr 7 120] (ci 8 (rr [mi 2 3]))) (sr [mt 9 0,ka 10 zZe 9,mt 3 10] (seq (sr [mt 11 3,idx 12 1 (t 11) (0:Int),lf 13 1 12,ka 14 zZc 13,bi 15 .neq 14 0,mt 16 15,(gt 16,mt 17 3),(gt 16,.idx 18 1 (t 17) (0:Int)),(gt 16,lf 19 1 18),(gt 16,.call (some 20) zZd [t 19]),(gt 16,bi 21 .neq 20 0),an 22 16 21,mt 23 22,(gt 23,mt 24 3),(gt 23,.idx 25 1 (t 24) (0:Int)),(gt 23,lf 26 1 25),(gt 23,bq 27 .neq 26 (.c (.d (.str [118])))),(gt 23,mt 28 27),(gf 28,mt 29 3),(gf 28,ln 30 29),(gf 28,bi 31 .eql 30 1),(gt 23,ou 32 28 31),an 33 23 32] (ci 33 (rr [mi 2 3]))) (seq (sr [mt 34 3,lfrom 35 1 (t 34) (1:Int),ln 36 35,mi 37 0] (block 0 (loop zqg))) (rr [mi 2 0]))))),[.t 2]⟩
def zqj:AC:=seq (sr [mt 14 6,ft 15 1 2,lf 16 1 15,ln 17 16,bt 18 .lss 14 17] (cn 18 skip (exit 0))) (seq (block 1 (sr [ft 21 1 2,lf 22 1 21,mt 23 6,ix 24 3 22 23,ft 25 0 24,lf 26 1 25,mt 27 1,bt 28 .eql 26 27] (ci 28 (rr [ft 29 1 2,lf 30 1 29,mt 31 6,ix 32 3 30 31,lg 33 3 32,su 3 4 33,mv 5 true])))) (cD [mt 19 6,bi 20 .add 19 1,mt 6 20]))
def zQr:bL:=⟨35,sr [box 2 (t 0),alloc 4 BE,mv 5 false] (seq (sr [mt 7 1,bq 8 .eql 7 (.c (.d (.str [116,97,103])))] (ci 8 (rr [build 9 BE [(0,1,.c (.d (.str [116,97,103]))),(2,1,.c (.d (.str [73,110,116])))],su 3 4 9,mv 5 true]))) (seq (sr [mt 10 1,bq 11 .eql 10 (.c (.d (.str [118,97,108])))] (ci 11 (rr [bsl 12 1 [.c (.d (.str [67,101,108,108]))],build 13 BE [(0,1,.c (.d (.str [118,97,108]))),(1,1,t 12),(2,1,.c (.d (.str [73,110,116])))],su 3 4 13,mv 5 true]))) (seq (sr [mi 6 0] (block 0 (loop zqj))) (rr [build 34 BE [],su 3 4 34,mv 5 false])))),[.c 4 true 3,.t 5]⟩
def zw7:AC:=seq (sr [mt 11 5,mt 12 0,ln 13 12,bt 14 .lss 11 13] (cn 14 skip (exit 0))) (seq (block 1 (seq (cm [mt 17 0,mt 18 5,ix 19 1 17 18,lf 20 1 19,mt 21 1,mt 22 5,ix 23 1 21 22,lf 24 1 23,bt 25 .neq 20 24]) (ci 25 (rr [mv 4 false])))) (cD [mt 15 5,bi 16 .add 15 1,mt 5 16]))
def zYd:bL:=⟨26,sr [mv 4 false] (seq (sr [mt 6 0,ln 7 6,mt 8 1,ln 9 8,bt 10 .neq 7 9] (ci 10 (rr [mv 4 false]))) (seq (sr [mi 5 0] (block 0 (loop zw7))) (rr [mv 4 true]))),[.t 4]⟩
def zqk:AC:=seq (sr [mt 7 6,ft 8 2 2,lf 9 1 8,ln 10 9,bt 11 .lss 7 10] (cn 11 skip (exit 0))) (seq (block 1 (sr [ft 14 2 2,lf 15 1 14,mt 16 6,ix 17 2 15 16,ft 18 0 17,lf 19 1 18,mt 20 1,bt 21 .eql 19 20] (ci 21 (rr [ft 22 2 2,lf 23 1 22,mt 24 6,ix 25 2 23 24,lg 26 2 25,su 2 4 26,mv 5 true])))) (cD [mt 12 6,bi 13 .add 12 1,mt 6 13]))
def zQs:bL:=⟨28,sr [box 2 (t 0),alloc 4 AP,mv 5 false] (seq (sr [mi 6 0] (block 0 (loop zqk))) (rr [build 27 AP [],su 2 4 27,mv 5 false])),[.c 4 true 2,.t 5]⟩
def zZC:AC:=seq (sr [mt 6 5,mt 7 0,ln 8 7,bt 9 .lss 6 8] (cn 9 skip (exit 0))) (seq (block 1 (sr [mt 12 0,mt 13 5,ix 14 1 12 13,lf 15 1 14,mt 16 1,bt 17 .neq 15 16] (ci 17 (rr [mv 4 false])))) (cD [mt 10 5,bi 11 .add 10 1,mt 5 11]))
def yyv:bL:=⟨18,sr [mv 4 false] (seq (sr [mi 5 0] (block 0 (loop zZC))) (rr [mv 4 true])),[.t 4]⟩
def zy5:bL:=⟨8,sr [mv 2 (.c (.full []))] (seq (sr [mt 3 0,isnil 4 (t 3)] (ci 4 (rr [mv 2 (.c (.full []))]))) (rr [bsl 5 1 [],mt 6 0,ap 7 1 16 5 6,mt 2 7])),[.t 2]⟩
def zxr:bL:=⟨8,sr [mv 2 (.c (.full []))] (seq (sr [mt 3 0,isnil 4 (t 3)] (ci 4 (rr [mv 2 (.c (.full []))]))) (rr [bsl 5 2 [],mt 6 0,ap 7 2 32 5 6,mt 2 7])),[.t 2]⟩
def UD:AC:=sr [bt 9 .lss 8 7] (seq (cn 9 skip (exit 0)) (seq (block 1 (sr [ix 10 1 6 8,lf 11 1 10,mt 5 11] (sr [mt 12 5,lf 13 1 1,bt 14 .neq 12 13] (ci 14 (rr [mv 3 false]))))) (cD [bi 15 .add 8 1,mt 8 15])))
def zYf:bL:=⟨16,sr [mv 3 false] (seq (sr [mt 6 0,ln 7 6,mi 8 0] (block 0 (loop UD))) (rr [mv 3 true])),[.t 3]⟩
def zXU:bL:=⟨9,sr [mv 2 false] (rr [mt 3 0,bin 4 .leq (.c (.d (.int .u8 97))) (t 3),mt 5 4,(gt 5,mt 6 0),(gt 5,bq 7 .leq 6 (.c (.d (.int .u8 122)))),an 8 5 7,mt 2 8]),[.t 2]⟩
def UC:AC:=sr [bi 7 .lss 6 42] (seq (cn 7 skip (exit 0)) (seq (block 1 (sr [aidx 8 42 (t 5) (t 6),mt 4 8] (sr [mt 9 4,mt 10 0,bt 11 .eql 9 10] (ci 11 (rr [mv 2 true]))))) (cD [bi 12 .add 6 1,mt 6 12])))
def zZ8:bL:=⟨13,sr [mv 2 false] (seq (sr [ld 5 true 42 (.c (.d (.gp 2 0))),mi 6 0] (block 0 (loop UC))) (rr [mv 2 false])),[.t 2]⟩
def zXS:bL:=⟨9,sr [mv 2 false] (rr [mt 3 0,bin 4 .leq (.c (.d (.int .u8 48))) (t 3),mt 5 4,(gt 5,mt 6 0),(gt 5,bq 7 .leq 6 (.c (.d (.int .u8 57)))),an 8 5 7,mt 2 8]),[.t 2]⟩
def zZ9:bL:=⟨9,sr [mv 2 false] (rr [mt 3 0,bin 4 .leq (.c (.d (.int .u8 65))) (t 3),mt 5 4,(gt 5,mt 6 0),(gt 5,bq 7 .leq 6 (.c (.d (.int .u8 90)))),an 8 5 7,mt 2 8]),[.t 2]⟩
def Ov:bL:=⟨48,sr [box 1 (t 0),alloc 2 kE,mi 3 0] (seq (sr [lg 6 2 1,ka 7 AQ 6,bi 8 .neq 7 0] (ci 8 (rr [build 9 kE [],su 2 2 9,mi 3 0]))) (seq (sr [ft 10 0 1,lf 11 1 10,ln 12 11,bi 13 .eql 12 0] (ci 13 (seq (block 0 (sr [ft 15 1 1,lf 16 1 15,bi 17 .gtr 16 0,mt 14 17] (cn 14 (rr [build 18 kE [(1,1,.c (.d (.int .i64 1)))],su 2 2 18,mi 3 1]) (sr [ft 20 1 1,lf 21 1 20,bi 22 .lss 21 0,mt 19 22] (ci 19 (rr [build 23 kE [(1,1,.c (.d (.int .i64 1)))],su 2 2 23,mv 3 (-1:Int)])))))) (rr [build 24 kE [],su 2 2 24,mi 3 1])))) (seq (cm [lg 25 2 1,ft 26 1 1,lf 27 1 26,kc 28 G5 [t 27,.c (.d (.int .i64 0))],kb 29 Hy 25 28,mt 4 29,mi 5 1]) (seq (sr [ft 30 0 1,lf 31 1 30,idx 32 2 (t 31) (0:Int),ft 33 1 32,lf 34 1 33,bi 35 .lss 34 0] (ci 35 (cD [mt 36 4,bin 37 .sub (0:Int) (t 36),mt 4 37,mv 5 (-1:Int)]))) (seq (cm [ft 38 0 1,lf 39 1 38,mt 40 4,kb 41 Ed 39 40,ft 42 1 1,lf 43 1 42,mt 44 4,bt 45 .quo 43 44,build 46 kE [(0,1,t 41),(1,1,t 45)],mt 47 5,su 2 2 46,mt 3 47]) ret))))),[.c 2 true 2,.t 3]⟩
def T3:AC:=seq (sr [mt 9 1,bi 10 .neq 9 0] (cn 10 skip (exit 0))) (block 1 (cm [mt 11 1,mt 12 0,mt 13 1,bt 14 .rem 12 13,mt 0 11,mt 1 14]))
def yyl:bL:=⟨16,sr [mi 4 0] (sr [mt 5 0,ka 6 DR 5,mt 7 1,ka 8 DR 7,mt 0 6,mt 1 8] (seq (block 0 (loop T3)) (rr [mt 15 0,mt 4 15]))),[.t 4]⟩
def zKc:bL:=⟨43,sr [mi 4 0,mi 5 0,mv 6 false] (seq (sr [mt 9 0,ka 10 vo 9,nu 11 10,mt 12 11,(gf 12,mt 13 1),(gf 12,.call (some 14) vo [t 13]),(gf 12,nu 15 14),ou 16 12 15,mt 17 16,(gf 17,mt 18 1),(gf 17,bi 19 .eql 18 0),ou 20 17 19] (ci 20 (rr [mi 4 0,mi 5 0,mv 6 false]))) (seq (cm [mt 21 0,mt 22 1,bt 23 .quo 21 22,mt 24 0,mt 25 1,bt 26 .rem 24 25,mt 7 23,mt 8 26]) (seq (sr [mt 27 8,bi 28 .neq 27 0,mt 29 28,(gt 29,mt 30 8),(gt 29,bi 31 .lss 30 0),(gt 29,mt 32 1),(gt 29,bi 33 .lss 32 0),(gt 29,.beq 34 true (t 31) (t 33)),an 35 29 34] (ci 35 (sr [mt 36 7,bi 37 .sub 36 1,mt 7 37] (cD [mt 38 8,mt 39 1,bt 40 .add 38 39,mt 8 40])))) (rr [mt 41 7,mt 42 8,mt 4 41,mt 5 42,mv 6 true])))),[.t 4,.t 5,.t 6]⟩
def UB:bL:=⟨12,sr [box 2 (t 0),alloc 3 nO,mv 4 false] (seq (cm [ft 5 0 2,lf 6 1 5,ft 7 1 2,lf 8 1 7,lf 9 1 1,bt 10 .quo 8 9,build 11 nO [(0,1,t 6),(1,1,t 10)],su 2 3 11,mv 4 true]) ret),[.c 3 true 2,.t 4]⟩
def zjt:AC:=sr [bt 9 .lss 8 7] (seq (cn 9 skip (exit 0)) (seq (block 1 (sr [mt 10 8,mt 5 10] (sr [mt 11 0,mt 12 5,sidx 13 (t 11) (t 12),bq 14 .eql 13 (.c (.d (.int .u8 46)))] (ci 14 (sr [mt 15 3,mt 16 0,mt 17 4,mt 18 5,sto 19 (t 16) (t 17) (t 18),bsl 20 1 [t 19],ap 21 1 16 15 20,mt 3 21] (cD [mt 22 5,bi 23 .add 22 1,mt 4 23])))))) (cD [bi 24 .add 8 1,mt 8 24])))
def zV2:bL:=⟨31,sr [mv 2 (.c (.full []))] (sr [mv 3 (.c (.full []))] (sr [mi 4 0] (seq (sr [mt 6 0,ls 7 6,mi 8 0] (block 0 (loop zjt))) (rr [mt 25 3,mt 26 0,mt 27 4,sfrom 28 (t 26) (t 27),bsl 29 1 [t 28],ap 30 1 16 25 29,mt 2 30])))),[.t 2]⟩
def zjr:AC:=sr [bt 25 .lss 24 23] (seq (cn 25 skip (exit 0)) (seq (block 1 (sr [mt 26 24,mt 3 26] (sr [mt 27 0,mt 28 3,sidx 29 (t 27) (t 28),ka 30 LQ 29,nu 31 30,mt 32 31,(gt 32,mt 33 0),(gt 32,mt 34 3),(gt 32,.sidx 35 (t 33) (t 34)),(gt 32,.call (some 36) Pd [t 35]),(gt 32,nu 37 36),an 38 32 37,mt 39 38,(gt 39,mt 40 0),(gt 39,mt 41 3),(gt 39,.sidx 42 (t 40) (t 41)),(gt 39,bq 43 .neq 42 (.c (.d (.int .u8 95)))),an 44 39 43] (ci 44 (rr [mi 2 3]))))) (cD [bi 45 .add 24 1,mt 24 45])))
def zVZ:bL:=⟨46,sr [mi 2 0] (seq (sr [mt 4 0,ls 5 4,bi 6 .lss 5 1,mt 7 6,(gf 7,mt 8 0),(gf 7,ls 9 8),(gf 7,bi 10 .gtr 9 24),ou 11 7 10,mt 12 11,(gf 12,mt 13 0),(gf 12,.sidx 14 (t 13) (0:Int)),(gf 12,.call (some 15) LQ [t 14]),(gf 12,nu 16 15),ou 17 12 16,mt 18 17,(gf 18,mt 19 0),(gf 18,.call (some 20) zve [t 19]),ou 21 18 20] (ci 21 (rr [mi 2 3]))) (seq (sr [mt 22 0,ls 23 22,mi 24 0] (block 0 (loop zjr))) (rr [mi 2 0]))),[.t 2]⟩
def zjs:AC:=sr [bt 37 .lss 36 35] (seq (cn 37 skip (exit 0)) (seq (block 1 (sr [mt 38 36,mt 3 38] (sr [mt 39 0,mt 40 3,sidx 41 (t 39) (t 40),ka 42 LQ 41,nu 43 42,mt 44 43,(gt 44,mt 45 0),(gt 44,mt 46 3),(gt 44,.sidx 47 (t 45) (t 46)),(gt 44,.call (some 48) UI [t 47]),(gt 44,nu 49 48),an 50 44 49,mt 51 50,(gt 51,mt 52 0),(gt 51,mt 53 3),(gt 51,.sidx 54 (t 52) (t 53)),(gt 51,.call (some 55) Pd [t 54]),(gt 51,nu 56 55),an 57 51 56] (ci 57 (rr [mi 2 3]))))) (cD [bi 58 .add 36 1,mt 36 58])))
def zV0:bL:=⟨59,sr [mi 2 0] (seq (sr [mt 4 0,ls 5 4,bi 6 .lss 5 1,mt 7 6,(gf 7,mt 8 0),(gf 7,ls 9 8),(gf 7,bi 10 .gtr 9 24),ou 11 7 10,mt 12 11,(gf 12,mt 13 0),(gf 12,.sidx 14 (t 13) (0:Int)),(gf 12,.call (some 15) UI [t 14]),(gf 12,nu 16 15),ou 17 12 16,mt 18 17,(gf 18,mt 19 0),(gf 18,bq 20 .eql 19 (.c (.d (.str [73,110,116])))),ou 21 18 20,mt 22 21,(gf 22,mt 23 0),(gf 22,bq 24 .eql 23 (.c (.d (.str [66,111,111,108])))),ou 25 22 24,mt 26 25,(gf 26,mt 27 0),(gf 26,bq 28 .eql 27 (.c (.d (.str [67,101,108,108])))),ou 29 26 28,mt 30 29,(gf 30,mt 31 0),(gf 30,bq 32 .eql 31 (.c (.d (.str [70,117,110])))),ou 33 30 32] (ci 33 (rr [mi 2 3]))) (seq (sr [mt 34 0,ls 35 34,mi 36 0] (block 0 (loop zjs))) (rr [mi 2 0]))),[.t 2]⟩
def zqi:AC:=sr [bt 20 .lss 19 18] (seq (cn 20 skip (exit 0)) (seq (block 1 (sr [mt 21 19,mt 5 21] (sr [mt 22 3,mt 23 22,(gt 23,mt 24 0),(gt 23,mt 25 5),(gt 23,.sidx 26 (t 24) (t 25)),(gt 23,.call (some 27) LQ [t 26]),(gt 23,mt 28 27),(gf 28,mt 29 0),(gf 28,mt 30 5),(gf 28,.sidx 31 (t 29) (t 30)),(gf 28,.call (some 32) UI [t 31]),(gt 23,ou 33 28 32),(gt 23,mt 34 33),(gf 34,mt 35 0),(gf 34,mt 36 5),(gf 34,.sidx 37 (t 35) (t 36)),(gf 34,.call (some 38) Pd [t 37]),(gt 23,ou 39 34 38),an 40 23 39,mt 3 40] (cD [mt 41 4,mt 42 41,(gt 42,mt 43 0),(gt 42,mt 44 5),(gt 42,.sidx 45 (t 43) (t 44)),(gt 42,.call (some 46) LQ [t 45]),(gt 42,mt 47 46),(gf 47,mt 48 0),(gf 47,mt 49 5),(gf 47,.sidx 50 (t 48) (t 49)),(gf 47,.call (some 51) Pd [t 50]),(gt 42,ou 52 47 51),(gt 42,mt 53 52),(gf 53,mt 54 0),(gf 53,mt 55 5),(gf 53,.sidx 56 (t 54) (t 55)),(gf 53,bq 57 .eql 56 (.c (.d (.int .u8 95)))),(gt 42,ou 58 53 57),an 59 42 58,mt 4 59])))) (cD [bi 60 .add 19 1,mt 19 60])))
def zQq:bL:=⟨65,sr [mv 2 false] (seq (sr [mt 6 0,ls 7 6,bi 8 .lss 7 1,mt 9 8,(gf 9,mt 10 0),(gf 9,ls 11 10),(gf 9,bi 12 .gtr 11 24),ou 13 9 12] (ci 13 (rr [mv 2 false]))) (sr [mv 3 true] (sr [mt 14 0,sidx 15 (t 14) (0:Int),ka 16 LQ 15,mt 4 16] (seq (sr [mt 17 0,ls 18 17,mi 19 0] (block 0 (loop zqi))) (rr [mt 61 3,mt 62 61,(gf 62,mt 63 4),ou 64 62 63,mt 2 64]))))),[.t 2]⟩
def zV3:bL:=⟨9,sr [mv 2 false] (rr [mt 3 0,bq 4 .geq 3 (.c (.d (.int .u8 97))),mt 5 4,(gt 5,mt 6 0),(gt 5,bq 7 .leq 6 (.c (.d (.int .u8 122)))),an 8 5 7,mt 2 8]),[.t 2]⟩
def zXZ:bL:=⟨7,sr [mv 2 false] (rr [kc 3 zkp [],mt 4 0,kb 5 zXw 3 4,bi 6 .geq 5 0,mt 2 6]),[.t 2]⟩
def zV1:bL:=⟨9,sr [mv 2 false] (rr [mt 3 0,bq 4 .geq 3 (.c (.d (.int .u8 48))),mt 5 4,(gt 5,mt 6 0),(gt 5,bq 7 .leq 6 (.c (.d (.int .u8 57)))),an 8 5 7,mt 2 8]),[.t 2]⟩
def zX0:bL:=⟨9,sr [mv 2 false] (rr [mt 3 0,bq 4 .geq 3 (.c (.d (.int .u8 65))),mt 5 4,(gt 5,mt 6 0),(gt 5,bq 7 .leq 6 (.c (.d (.int .u8 90)))),an 8 5 7,mt 2 8]),[.t 2]⟩
def zqh:AC:=sr [bt 9 .lss 8 7] (seq (cn 9 skip (exit 0)) (seq (block 1 (sr [mt 10 8,mt 5 10] (sr [mt 11 0,mt 12 5,ix 13 1 11 12,lf 14 1 13,mt 15 1,bt 16 .eql 14 15] (ci 16 (rr [mt 17 5,mt 4 17]))))) (cD [bi 18 .add 8 1,mt 8 18])))
def zQp:bL:=⟨19,sr [mi 4 0] (seq (sr [mt 6 0,ln 7 6,mi 8 0] (block 0 (loop zqh))) (rr [mv 4 (-1:Int)])),[.t 4]⟩
def zYF:bL:=⟨2,sr [mv 0 (.c (.full []))] (rr [bsl 1 1 [.c (.d (.str [97,110,100])),.c (.d (.str [97,115,115,117,109,101])),.c (.d (.str [98,111,111,108])),.c (.d (.str [98,111,117,110,100])),.c (.d (.str [99,97,115,101])),.c (.d (.str [99,101,108,108])),.c (.d (.str [99,108,97,115,115])),.c (.d (.str [100,97,116,97])),.c (.d (.str [100,101,102])),.c (.d (.str [100,105,118])),.c (.d (.str [101,108,115,101])),.c (.d (.str [101,110,100])),.c (.d (.str [102,97,108,115,101])),.c (.d (.str [102,111,114,97,108,108])),.c (.d (.str [102,117,110])),.c (.d (.str [103,101,116])),.c (.d (.str [105,102])),.c (.d (.str [105,110])),.c (.d (.str [105,110,115,116])),.c (.d (.str [105,110,116])),.c (.d (.str [105,110,118,97,114,105,97,110,116])),.c (.d (.str [108,101,116])),.c (.d (.str [109,97,116,99,104])),.c (.d (.str [109,101,97,115,117,114,101])),.c (.d (.str [109,101,116,114,105,99])),.c (.d (.str [109,111,100])),.c (.d (.str [109,117])),.c (.d (.str [110,101,119])),.c (.d (.str [110,111,116])),.c (.d (.str [111,102])),.c (.d (.str [111,114])),.c (.d (.str [113,117,97,108])),.c (.d (.str [114,101,102,108,101,99,116])),.c (.d (.str [115,101,116])),.c (.d (.str [116,104,101,110])),.c (.d (.str [116,114,117,101])),.c (.d (.str [117,115,101])),.c (.d (.str [118])),.c (.d (.str [118,97,108])),.c (.d (.str [116,97,103])),.c (.d (.str [119,104,101,114,101])),.c (.d (.str [119,105,116,104]))],mt 0 1]),[.t 0]⟩
abbrev Bd(E:ax)(f:bL)(i:FuncId):Prop:=∀args r,Body E f args r→E.C i args r
structure Sys(E:ax):Prop where
 zwp:Bd E zZ4 zwp
 Lg:Bd E zVR Lg
 Gb:Bd E zVO Gb
 KS:Bd E zW3 KS
 BI:Bd E zW4 BI
 V3:Bd E zQH V3
 Lk:Bd E zQu Lk
 zvF:Bd E zV4 zvF
 KR:Bd E zVP KR
 HC:Bd E zZ1 HC
 zkc:Bd E zX1 zkc
 rF:Bd E KQ rF
 GB:Bd E zKd GB
 Ld:Bd E zYM Ld
 Bt:Bd E zqR Bt
 V7:Bd E zYH V7
 zZS:Bd E zQJ zZS
 BH:Bd E xZ BH
 KU:Bd E zW5 KU
 Um:Bd E zZD Um
 V5:Bd E zQF V5
 Gx:Bd E zV8 Gx
 Cw:Bd E yyh Cw
 tE:Bd E yyi tE
 iY:Bd E Zx iY
 FO:Bd E yyg FO
 me:Bd E Zw me
 DY:Bd E zVT DY
 Hf:Bd E T2 Hf
 Pg:Bd E zWk Pg
 zZL:Bd E zQt zZL
 Ll:Bd E zvy Ll
 K5:Bd E Ot K5
 zXG:Bd E zWl zXG
 HI:Bd E zwN HI
 VX:Bd E zV5 VX
 VU:Bd E zQx VU
 KT:Bd E zXP KT
 Hw:Bd E zqS Hw
 yr:Bd E zQj yr
 Hb:Bd E zQm Hb
 NP:Bd E yw6 NP
 V8:Bd E zYL V8
 VK:Bd E yyt VK
 yv:Bd E zYN yv
 KW:Bd E zYO KW
 Hp:Bd E zKg Hp
 Ho:Bd E zKe Ho
 H2:Bd E zXX H2
 He:Bd E zVX He
 tN:Bd E zVV tN
 KK:Bd E zKf KK
 x3:Bd E OC x3
 CF:Bd E HJ CF
 HK:Bd E UO HK
 zXC:Bd E zQA zXC
 zZf:Bd E zV7 zZf
 VV:Bd E zQC VV
 Pk:Bd E Pn Pk
 OD:Bd E zkF OD
 TR:Bd E yyA TR
 F8:Bd E zYv F8
 K4:Bd E KX K4
 Bq:Bd E zZ3 Bq
 FZ:Bd E zW6 FZ
 KZ:Bd E zVN KZ
 zY6:Bd E yyx zY6
 UH:Bd E zJb UH
 Ia:Bd E zJa Ia
 VI:Bd E yyq VI
 zvf:Bd E zKi zvf
 zxi:Bd E zqs zxi
 AQ:Bd E zYw AQ
 Em:Bd E yym Em
 F1:Bd E T4 F1
 UJ:Bd E zqm UJ
 Lt:Bd E zxz Lt
 zXB:Bd E zQz zXB
 Lv:Bd E zzM Lv
 Ea:Bd E zZ2 Ea
 Eb:Bd E zYc Eb
 Kz:Bd E zVY Kz
 D6:Bd E zXY D6
 Vy:Bd E yw7 Vy
 VS:Bd E zQv VS
 VY:Bd E zV6 VY
 VT:Bd E zQw VT
 Kr:Bd E zQM Kr
 Lj:Bd E zj3 Lj
 Lh:Bd E zq0 Lh
 Li:Bd E zq1 Li
 AF:Bd E Oz AF
 D0:Bd E Ou D0
 Ky:Bd E zVW Ky
 Hq:Bd E zKh Hq
 vo:Bd E ZU vo
 KG:Bd E zW9 KG
 Lo:Bd E zkR Lo
 Lq:Bd E zwL Lq
 Lu:Bd E UT Lu
 Bu:Bd E US Bu
 CG:Bd E UQ CG
 uX:Bd E Ln uX
 xY:Bd E zW8 xY
 Bs:Bd E zYx Bs
 zy2:Bd E zjy zy2
 Wa:Bd E zjZ Wa
 zxv:Bd E zj1 zxv
 Wb:Bd E zj2 Wb
 UX:Bd E zki UX
 H8:Bd E zQL H8
 zxu:Bd E zj0 zxu
 Pe:Bd E zJe Pe
 OE:Bd E zw8 OE
 La:Bd E zQK La
 F6:Bd E zYy F6
 zZi:Bd E zJd zZi
 VJ:Bd E yyr VJ
 NZ:Bd E yw5 NZ
 VR:Bd E zQn VR
 DR:Bd E yyo DR
 Ht:Bd E zXW Ht
 Lm:Bd E zvX Lm
 zVq:Bd E yyu zVq
 zZg:Bd E zV9 zZg
 zXA:Bd E zQy zXA
 zjj:Bd E zkB zjj
 zVp:Bd E yys zVp
 zVr:Bd E yyw zVr
 zXD:Bd E zQD zXD
 zwv:Bd E zYe zwv
 KA:Bd E zJf KA
 Lf:Bd E zYg Lf
 KB:Bd E zJg KB
 F3:Bd E zX2 F3
 HD:Bd E zjB HD
 Hd:Bd E zVS Hd
 KH:Bd E zKa KH
 KP:Bd E zXV KP
 F5:Bd E zXT F5
 HF:Bd E zvx HF
 KI:Bd E zKb KI
 Ga:Bd E zkh Ga
 Cy:Bd E zVM Cy
 yw:Bd E F9 yw
 D4:Bd E zXQ D4
 Lp:Bd E zwK Lp
 CD:Bd E UM CD
 KV:Bd E zYA KV
 HG:Bd E zkz HG
 Hx:Bd E zqW Hx
 Oy:Bd E Ph Oy
 Hz:Bd E zqZ Hz
 Hy:Bd E zqY Hy
 Ko:Bd E yyk Ko
 Ed:Bd E Ud Ed
 Ui:Bd E zQo Ui
 zXy:Bd E zQr zXy
 zwu:Bd E zYd zwu
 zXz:Bd E zQs zXz
 TQ:Bd E yyv TQ
 Lr:Bd E zy5 Lr
 Ls:Bd E zxr Ls
 CC:Bd E zYf CC
 D5:Bd E zXU D5
 Le:Bd E zZ8 Le
 F4:Bd E zXS F4
 Hu:Bd E zZ9 Hu
 KO:Bd E Ov KO
 G5:Bd E yyl G5
 KJ:Bd E zKc KJ
 CE:Bd E UB CE
 zZe:Bd E zV2 zZe
 zZc:Bd E zVZ zZc
 zZd:Bd E zV0 zZd
 zXx:Bd E zQq zXx
 LQ:Bd E zV3 LQ
 zve:Bd E zXZ zve
 Pd:Bd E zV1 Pd
 UI:Bd E zX0 UI
 zXw:Bd E zQp zXw
 zkp:Bd E zYF zkp
end Go.Abs
end
