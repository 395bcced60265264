/-
  THE FUNCTIONS of the cut, as the abstract machine runs them (printed by program); Sys: for each of them, what its text computes is its contract.
-/
import Derived.Test.YtkaaomojgmbgdaaGreatDoorAbs4
set_option linter.unusedSimpArgs false
set_option linter.unusedVariables false
set_option linter.unusedSectionVars false
set_option maxRecDepth 100000
section
namespace Go.Abs
@[go_sem] def gf(n:Nat):Option (Nat×Bool):=some (n,false)
@[go_sem] def gt(n:Nat):Option (Nat×Bool):=some (n,true)
instance:Coe I (Option (Nat×Bool)×I):=⟨fun i=>(none,i)⟩
instance:Coe Int X:=⟨fun n=>.c (.d (.int .i64 n))⟩
instance:Coe Bool X:=⟨fun b=>.c (.d (.bool b))⟩
instance:Coe Int AV:=⟨fun n=>.d (.int .i64 n)⟩
def zzN:Nat:=9
def zxk:Nat:=3
def zyY:Nat:=4
def zvo:FuncId:=9
def zx6:FuncId:=10
def zzS:FuncId:=11
def zkS:FuncId:=12
def zyx:FuncId:=14
def zkM:FuncId:=19
def zy3:FuncId:=20
def zzF:FuncId:=22
def zws:FuncId:=23
def zwi:FuncId:=24
def zzP:FuncId:=25
def zyw:FuncId:=28
def zke:FuncId:=31
def zjE:FuncId:=35
def zx7:FuncId:=36
def zyA:FuncId:=37
def zwq:FuncId:=38
def zKv:FuncId:=39
def zXr:FuncId:=40
def zj5:FuncId:=41
def zvG:FuncId:=42
def zqz:FuncId:=43
def zxs:FuncId:=44
def l12_v:FuncId:=45
def zYU:FuncId:=46
def l12_n:FuncId:=47
def zwS:FuncId:=48
def zkU:FuncId:=49
def strconv_Itoa:FuncId:=52
def zyD:FuncId:=53
def zv8:FuncId:=54
def strings_Join:FuncId:=55
def zkT:FuncId:=60
def zxa:FuncId:=61
def zwn:FuncId:=62
def zZI:FuncId:=63
def zyd:FuncId:=67
def zks:FuncId:=68
def zvc:FuncId:=69
def zvb:FuncId:=70
def zkb:FuncId:=71
def zjI:FuncId:=72
def zyc:FuncId:=73
def zji:FuncId:=74
def zzy:FuncId:=75
def zzq:FuncId:=76
def zzQ:FuncId:=77
def zxx:FuncId:=84
def zv7:FuncId:=85
def zye:FuncId:=86
def zkf:FuncId:=87
def zqK:FuncId:=92
def zyj:FuncId:=100
def zzu:FuncId:=101
def zyq:FuncId:=102
def zqD:FuncId:=103
def zYZ:FuncId:=104
def zka:FuncId:=105
def zxD:FuncId:=106
def zq9:FuncId:=107
def zZR:FuncId:=108
def zkn:FuncId:=109
def zzH:FuncId:=112
def zzi:FuncId:=117
def zyH:FuncId:=118
def zyL:FuncId:=119
def zZb:FuncId:=120
def zxM:FuncId:=121
def zXJ:FuncId:=126
def zxw:FuncId:=127
def zxS:FuncId:=128
def zxT:FuncId:=129
def zz1:FuncId:=130
def zwt:FuncId:=131
def zZa:FuncId:=132
def zvd:FuncId:=133
def zkm:FuncId:=134
def zje:FuncId:=135
def zyo:FuncId:=136
def zz5:FuncId:=137
def zzU:FuncId:=138
def zzo:FuncId:=139
def zzx:FuncId:=140
def zzj:FuncId:=141
def zyz:FuncId:=142
def zyv:FuncId:=143
def strconv_Atoi:FuncId:=154
def zxC:FuncId:=155
def zZH:FuncId:=161
def zwa:FuncId:=162
def zzK:FuncId:=163
def yzc:FuncId:=164
def zyO:FuncId:=165
def zZl:FuncId:=177
def zwx:FuncId:=178
def zZm:FuncId:=179
def zwj:FuncId:=180
def zyF:FuncId:=181
def zjF:FuncId:=182
def zjf:FuncId:=183
def zk9:FuncId:=184
def zx9:FuncId:=185
def zyf:FuncId:=186
def zjg:FuncId:=187
def zzI:FuncId:=188
def zwH:FuncId:=189
def zzr:FuncId:=190
def zxF:FuncId:=191
def zz4:FuncId:=192
def zzB:FuncId:=193
def zkk:FuncId:=194
def zz2:FuncId:=195
def zxf:FuncId:=196
def yxX:FuncId:=200
def zxh:FuncId:=201
def zxg:FuncId:=202
def zVl:FuncId:=203
def zyr:FuncId:=204
def zkl:FuncId:=205
def zz6:FuncId:=206
def zWz:FuncId:=207
def zzT:FuncId:=208
def zyN:FuncId:=209
def zzA:FuncId:=223
def zzE:FuncId:=224
def zys:FuncId:=225
def zxL:FuncId:=226
def zwr:FuncId:=227
def zx8:FuncId:=228
def zxK:FuncId:=229
def zk7:FuncId:=230
def zKV:FuncId:=231
def zWy:FuncId:=238
def zjh:FuncId:=239
def zzW:FuncId:=240
def zyh:FuncId:=241
def strconv_Quote:FuncId:=253
instance:Coe FuncId X:=⟨fun f=>.c (.d (.clo f []))⟩
open I (aad aidx alloc app beq bin box bsl bslz build call callB fa idx isnil ld len lfrom max mclr mget min mkf mkm mput mv nck sfrom sidx st sto)
open X (t)
open AC (block cond exit loop reg regd ret seq skip)
@[go_sem] def sr(l:List (Option (Nat×Bool)×I))(a:AC):AC:=.seq (.reg l) a
@[go_sem] def rr(l:List (Option (Nat×Bool)×I)):AC:=.seq (.reg l) .ret
@[go_sem] def ci(a:Nat)(x:AC):AC:=.cond (.t a) x .skip
@[go_sem] def bi(d:Nat)(o:BinOp)(a:Nat)(n:Int):I:=.bin d o (.t a) (.c (.d (.int .i64 n)))
@[go_sem] def mi(d:Nat)(n:Int):I:=.mv d (.c (.d (.int .i64 n)))
@[go_sem] def ka(d:Nat)(f:X)(a:Nat):I:=.call (some d) f [.t a]
@[go_sem] def kb(d:Nat)(f:X)(a b:Nat):I:=.call (some d) f [.t a,.t b]
@[go_sem] def kc(d:Nat)(f:X)(l:List X):I:=.call (some d) f l
@[go_sem] def kd(d:Nat)(f:X)(l:List X):I:=.callB (some d) f l
@[go_sem] def zoa:List AV:=[.d (.str []),.d (.str []),.d (.str []),.d (.str []),.d (.str []),.d (.str []),.d (.str []),.d (.str []),.d (.str []),.d (.str []),.d (.str []),.d (.str []),.d (.str [])]
@[go_sem] def zob:List AV:=[(0:Int),.d (.str []),(0:Int),.full [],.full []]
@[go_sem] def zoc:List AV:=[(0:Int),.d (.str []),(0:Int),.full []]
@[go_sem] def zod:List AV:=[.d (.str []),.full [],.d (.str [])]
@[go_sem] def zoe:List AV:=[.full [],(0:Int),.d (.bool false)]
@[go_sem] def zof:List AV:=[.d (.nilf),.d (.str [])]
@[go_sem] def zog:List AV:=[.d (.str []),(0:Int)]
@[go_sem] def zoh:List AV:=[.full [],(0:Int)]
@[go_sem] def mt(d a:Nat):I:=.mv d (.t a)
@[go_sem] def bt(d:Nat)(o:BinOp)(a b:Nat):I:=.bin d o (.t a) (.t b)
@[go_sem] def bq(d:Nat)(o:BinOp)(a:Nat)(b:X):I:=.bin d o (.t a) b
@[go_sem] def lg(d n a:Nat):I:=.ld d true n (.t a)
@[go_sem] def lf(d n a:Nat):I:=.ld d false n (.t a)
@[go_sem] def ft(d n a:Nat):I:=.fa d n (.t a)
@[go_sem] def ix(d n a b:Nat):I:=.idx d n (.t a) (.t b)
@[go_sem] def su(n a b:Nat):I:=.st n (.t a) (.t b)
@[go_sem] def ln(d a:Nat):I:=.len d false (.t a)
@[go_sem] def ls(d a:Nat):I:=.len d true (.t a)
@[go_sem] def eu(d a i:Nat):I:=.ext d (.t a) i
@[go_sem] def ap(d n m a b:Nat):I:=.app d n m (.t a) (.t b)
@[go_sem] def an(d a b:Nat):I:=.and d (.t a) (.t b)
@[go_sem] def ou(d a b:Nat):I:=.or d (.t a) (.t b)
@[go_sem] def nu(d a:Nat):I:=.not d (.t a)
@[go_sem] def cn(a:Nat)(x y:AC):AC:=.cond (.t a) x y
def zK9:FnA:=⟨121,sr [box 3 (t 0),box 4 (t 1),box 5 (t 2),mv 6 false] (seq (sr [lg 16 3 3,ka 17 zkM 16,nu 18 17,mt 19 18,(gf 19,lg 20 4 4),(gf 19,.bsl 21 4 [t 20]),(gf 19,.call (some 22) zx6 [t 21]),(gf 19,nu 23 22),ou 24 19 23,mt 25 24,(gf 25,ft 26 0 5),(gf 25,lf 27 1 26),(gf 25,ln 28 27),(gf 25,bi 29 .gtr 28 16),ou 30 25 29,mt 31 30,(gf 31,ft 32 1 5),(gf 31,lf 33 1 32),(gf 31,ln 34 33),(gf 31,bi 35 .gtr 34 40),ou 36 31 35,mt 37 36,(gf 37,ft 38 1 5),(gf 37,lf 39 1 38),(gf 37,.call (some 40) zyA [t 39]),(gf 37,nu 41 40),ou 42 37 41] (ci 42 (rr [kc 43 zzS [],mt 6 43]))) (sr [lg 45 3 3,lg 46 4 4,kb 47 zzP 45 46,mt 44 47,eu 48 44 0,eu 49 44 1,alloc 7 zob,su 5 7 48,mt 8 49] (sr [lg 51 4 4,ft 52 0 5,lf 53 1 52,ft 54 1 5,lf 55 1 54,kc 56 zwq [t 51,t 53,t 55],mt 50 56,eu 57 50 0,eu 58 50 1,mt 9 57,mt 10 58] (seq (sr [mt 59 8,bi 60 .neq 59 0,mt 61 60,(gf 61,mt 62 10),(gf 61,nu 63 62),ou 64 61 63,mt 65 64,(gf 65,lg 66 4 4),(gf 65,ft 67 0 5),(gf 65,lf 68 1 67),(gf 65,.call (some 69) zKv [t 66,t 68]),(gf 65,nu 70 69),ou 71 65 70,mt 72 71,(gf 72,lg 73 3 3),(gf 72,lg 74 4 4),(gf 72,ft 75 0 5),(gf 72,lf 76 1 75),(gf 72,ft 77 1 5),(gf 72,lf 78 1 77),(gf 72,.call (some 79) zXr [t 73,t 74,t 76,t 78]),(gf 72,nu 80 79),ou 81 72 80] (ci 81 (rr [kc 82 zzS [],mt 6 82]))) (sr [lg 84 4 4,ft 85 0 5,lf 86 1 85,ft 87 1 5,lf 88 1 87,kc 89 zj5 [t 84,t 86,t 88],mt 83 89,eu 90 83 0,eu 91 83 1,mt 11 90,mt 12 91] (sr [ft 93 4 7,lf 94 1 93,mt 95 11,kb 96 zjE 94 95,mt 92 96,eu 97 92 0,eu 98 92 1,mt 13 97,mt 14 98] (seq (sr [mt 99 12,nu 100 99,mt 101 100,(gf 101,mt 102 14),(gf 101,nu 103 102),ou 104 101 103] (ci 104 (rr [kc 105 zzS [],mt 6 105]))) (sr [ft 106 0 7,lg 107 4 106,mt 108 13,kb 109 zyw 107 108,mt 15 109] (rr [mt 110 15,bi 111 .eql 110 1,mt 112 9,beq 113 false (t 111) (t 112),mt 114 113,(gt 114,mt 115 15),(gt 114,bi 116 .geq 115 0),an 117 114 116,mt 118 117,(gt 118,.call (some 119) zzS []),an 120 118 119,mt 6 120]))))))))),[.t 6]⟩
def zjp:AC:=seq (sr [mt 4 3,mt 5 0,ln 6 5,bt 7 .lss 4 6] (cn 7 skip (exit 0))) (seq (block 1 (sr [mt 10 0,mt 11 3,ix 12 4 10 11,lg 13 4 12,ka 14 zvG 13,bi 15 .gtr 14 80] (ci 15 (rr [mv 2 false])))) (reg [mt 8 3,bi 9 .add 8 1,mt 3 9]))
def zVR:FnA:=⟨16,sr [mv 2 false] (seq (sr [mi 3 0] (block 0 (loop zjp))) (rr [mv 2 true])),[.t 2]⟩
def zjn:AC:=seq (sr [mt 113 10,bi 114 .leq 113 1] (cn 114 skip (exit 0))) (seq (block 1 (sr [ft 117 0 1,lg 118 4 117,mt 119 10,bsl 120 1 [t 119],kb 121 zyw 118 120,bi 122 .neq 121 0,mt 123 122,(gf 123,ft 124 0 8),(gf 123,lg 125 4 124),(gf 123,mt 126 10),(gf 123,.bsl 127 1 [t 126]),(gf 123,.call (some 128) zyw [t 125,t 127]),(gf 123,mt 129 10),(gf 123,mt 130 10),(gf 123,bt 131 .mul 129 130),(gf 123,bq 132 .mul 131 (-1:Int)),(gf 123,bi 133 .add 132 1),(gf 123,bt 134 .neq 128 133),ou 135 123 134] (ci 135 (rr [mv 0 false])))) (reg [mt 115 10,bi 116 .add 115 1,mt 10 116]))
def zVO:FnA:=⟨187,sr [mv 0 false] (sr [kc 15 zqz [],kc 16 l12_v [.c (.d (.str [120]))],kc 17 l12_v [.c (.d (.str [121]))],kc 18 zxs [.c (.d (.int .i64 12)),t 16,t 17],kc 19 l12_v [.c (.d (.str [121]))],kc 20 l12_v [.c (.d (.str [120]))],kc 21 zxs [.c (.d (.int .i64 12)),t 19,t 20],kc 22 zxs [.c (.d (.int .i64 15)),t 18,t 21],kb 23 zzP 15 22,mt 14 23,eu 24 14 0,eu 25 14 1,alloc 1 zob,su 5 1 24,mt 2 25] (sr [kc 26 l12_v [.c (.d (.str [120]))],kc 27 zYU [.c (.d (.str [102])),t 26],kc 28 l12_n [.c (.d (.int .i64 1))],kc 29 zxs [.c (.d (.int .i64 10)),t 27,t 28],kc 30 l12_v [.c (.d (.str [121]))],kc 31 zYU [.c (.d (.str [102])),t 30],kc 32 l12_n [.c (.d (.int .i64 2))],kc 33 zxs [.c (.d (.int .i64 10)),t 31,t 32],kc 34 zxs [.c (.d (.int .i64 15)),t 29,t 33],kc 35 l12_v [.c (.d (.str [120]))],kc 36 l12_v [.c (.d (.str [121]))],kc 37 zxs [.c (.d (.int .i64 10)),t 35,t 36],kc 38 zxs [.c (.d (.int .i64 15)),t 34,t 37],alloc 3 zoc,su 4 3 38] (seq (regd [kc 40 zqz [],lg 41 4 3,kb 42 zzP 40 41,mt 39 42,eu 43 39 0,eu 44 39 1,alloc 4 zob,su 5 4 43,mt 5 44]) (sr [kc 46 zqz [],kc 47 l12_v [.c (.d (.str [98]))],kb 48 zzP 46 47,mt 45 48,eu 49 45 0,eu 50 45 1,alloc 6 zob,su 5 6 49,mt 7 50] (sr [kc 52 zqz [],kc 53 l12_n [.c (.d (.int .i64 2))],kc 54 l12_v [.c (.d (.str [120]))],kc 55 zxs [.c (.d (.int .i64 8)),t 53,t 54],kc 56 l12_n [.c (.d (.int .i64 4))],kc 57 zxs [.c (.d (.int .i64 10)),t 55,t 56],kc 58 l12_n [.c (.d (.int .i64 3))],kc 59 l12_v [.c (.d (.str [120]))],kc 60 zxs [.c (.d (.int .i64 8)),t 58,t 59],kc 61 l12_n [.c (.d (.int .i64 6))],kc 62 zxs [.c (.d (.int .i64 10)),t 60,t 61],kc 63 zxs [.c (.d (.int .i64 15)),t 57,t 62],kb 64 zzP 52 63,mt 51 64,eu 65 51 0,eu 66 51 1,alloc 8 zob,su 5 8 65,mt 9 66] (seq (sr [(none,mt 67 2),(none,bi 68 .neq 67 0),(none,mt 69 68),(gf 69,ft 70 4 1),(gf 69,lf 71 1 70),(gf 69,ln 72 71),(gf 69,bi 73 .neq 72 1),(none,ou 74 69 73),(none,mt 75 74),(gf 75,mt 76 5),(gf 75,bi 77 .neq 76 0),(none,ou 78 75 77),(none,mt 79 78),(gf 79,ft 80 4 4),(gf 79,lf 81 1 80),(gf 79,ln 82 81),(gf 79,bi 83 .neq 82 4),(none,ou 84 79 83),(none,mt 85 84),(gf 85,mt 86 7),(gf 85,bi 87 .neq 86 0),(none,ou 88 85 87),(none,mt 89 88),(gf 89,ft 90 4 6),(gf 89,lf 91 1 90),(gf 89,ln 92 91),(gf 89,bi 93 .neq 92 2),(none,ou 94 89 93),(none,mt 95 94),(gf 95,ft 96 4 6),(gf 95,lf 97 1 96),(gf 95,.idx 98 2 (t 97) (0:Int)),(gf 95,ft 99 1 98),(gf 95,lf 100 1 99),(gf 95,bq 101 .neq 100 (-1:Int)),(none,ou 102 95 101),(none,mt 103 102),(gf 103,mt 104 9),(gf 103,bi 105 .neq 104 0),(none,ou 106 103 105),(none,mt 107 106),(gf 107,ft 108 4 8),(gf 107,lf 109 1 108),(gf 107,ln 110 109),(gf 107,bi 111 .neq 110 1),(none,ou 112 107 111)] (ci 112 (rr [mv 0 false]))) (seq (sr [mv 10 (-1:Int)] (block 0 (loop zjn))) (sr [lg 137 4 3,ka 138 zkS 137,mt 136 138,eu 139 136 0,eu 140 136 1,alloc 11 zoc,su 4 11 139,mt 12 140] (sr [ft 141 4 6,lf 142 1 141,bsl 143 1 [.c (.d (.int .i64 0)),.c (.d (.int .i64 1))],kb 144 zke 142 143,mt 13 144] (rr [(none,.call (some 145) l12_n [.c (.d (.int .i64 (-3)))]),(none,.call (some 146) l12_v [.c (.d (.str [120]))]),(none,.call (some 147) zYU [.c (.d (.str [102])),t 146]),(none,.call (some 148) zxs [.c (.d (.int .i64 6)),t 145,t 147]),(none,.call (some 149) zyx [t 148]),(none,bq 150 .eql 149 (.c (.d (.str [43,40,45,51,44,102,40,120,41,41])))),(none,mt 151 150),(gt 151,mt 152 12),(gt 151,ln 153 152),(gt 151,bi 154 .eql 153 2),(none,an 155 151 154),(none,mt 156 155),(gt 156,lg 157 4 11),(gt 156,.call (some 158) zwS [t 157]),(gt 156,ln 159 158),(gt 156,bi 160 .eql 159 0),(none,an 161 156 160),(none,mt 162 161),(gt 162,.call (some 163) zqz []),(gt 162,mt 164 12),(gt 162,.call (some 165) zy3 [t 163,t 164]),(gt 162,ln 166 165),(gt 162,bi 167 .eql 166 1),(none,an 168 162 167),(none,mt 169 168),(gt 169,mt 170 13),(gt 169,ln 171 170),(gt 169,bi 172 .eql 171 2),(none,an 173 169 172),(none,mt 174 173),(gt 174,mt 175 13),(gt 174,.idx 176 3 (t 175) (0:Int)),(gt 174,ft 177 2 176),(gt 174,lf 178 1 177),(none,an 179 174 178),(none,mt 180 179),(gt 180,mt 181 13),(gt 180,.idx 182 3 (t 181) (1:Int)),(gt 180,ft 183 2 182),(gt 180,lf 184 1 183),(gt 180,nu 185 184),(none,an 186 180 185),(none,mt 0 186)])))))))))),[.t 0]⟩
def zW3:FnA:=⟨8,sr [box 1 (t 0),alloc 2 zoc,mv 3 (.c (.full []))] (seq (regd [lg 4 4 1,ka 5 zkU 4,lg 6 4 1,ka 7 zwS 6,su 4 2 5,mt 3 7]) ret),[.c 2 true 4,.t 3]⟩
def zvK:AC:=sr [bt 40 .lss 39 38] (seq (cn 40 skip (exit 1)) (seq (block 2 (sr [ix 41 4 37 39,lg 42 4 41,alloc 6 zoc,su 4 6 42] (reg [mt 43 4,lg 44 4 6,ka 45 zyx 44,bsl 46 1 [t 45],ap 47 1 16 43 46,mt 4 47]))) (reg [bi 48 .add 39 1,mt 39 48])))
def zW4:FnA:=⟨55,sr [box 1 (t 0),mv 2 (.c (.d (.str [])))] (sr [mv 3 (.c (.d (.str [])))] (seq (sr [ft 7 0 1,lf 8 1 7] (block 0 (sr [bi 13 .eql 8 1,mt 12 13] (cn 12 (rr [ft 14 2 1,lf 15 1 14,ka 16 strconv_Itoa 15,mt 2 16]) (sr [bi 18 .eql 8 2,mt 17 18] (cn 17 (rr [ft 19 2 1,lf 20 1 19,bi 21 .eql 20 1,ka 22 zyD 21,mt 2 22]) (sr [bi 24 .eql 8 3,mt 23 24] (cn 23 (rr [ft 25 1 1,lf 26 1 25,mt 2 26]) (sr [bi 28 .eql 8 4,mt 27 28] (cn 27 (reg [ft 29 1 1,lf 30 1 29,mt 3 30]) (sr [bi 32 .eql 8 5,mt 31 32] (cn 31 (reg [ft 33 1 1,lf 34 1 33,bin 35 .add (.c (.d (.str [63]))) (t 34),mt 3 35]) (reg [ft 9 0 1,lf 10 1 9,ka 11 zv8 10,mt 3 11]))))))))))))) (sr [mv 4 (.c (.full []))] (seq (sr [ft 36 3 1,lf 37 1 36,ln 38 37,mi 39 0] (block 1 (loop zvK))) (rr [mt 49 3,bq 50 .add 49 (.c (.d (.str [40]))),mt 51 4,kc 52 strings_Join [t 51,.c (.d (.str [44]))],bt 53 .add 50 52,bq 54 .add 53 (.c (.d (.str [41]))),mt 2 54]))))),[.t 2]⟩
def zVP:FnA:=⟨19,sr [box 1 (t 0),mv 2 false] (rr [ft 3 0 1,lf 4 1 3,ln 5 4,bi 6 .leq 5 12,mt 7 6,(gt 7,ft 8 1 1),(gt 7,lf 9 1 8),(gt 7,ln 10 9),(gt 7,bi 11 .leq 10 8),an 12 7 11,mt 13 12,(gt 13,ft 14 2 1),(gt 13,lf 15 1 14),(gt 13,ln 16 15),(gt 13,bi 17 .leq 16 4),an 18 13 17,mt 2 18]),[.t 2]⟩
def zw1:AC:=sr [bt 56 .lss 55 54] (seq (cn 56 skip (exit 4)) (seq (block 5 (sr [mt 57 55,mt 11 57] (regd [mt 58 10,lg 59 3 2,ft 60 3 7,lf 61 1 60,mt 62 11,ix 63 4 61 62,lg 64 4 63,ft 65 3 9,lf 66 1 65,mt 67 11,ix 68 4 66 67,lg 69 4 68,kc 70 zxa [t 59,t 64,t 69],bsl 71 4 [t 70],ap 72 4 56 58 71,mt 10 72]))) (reg [bi 73 .add 55 1,mt 55 73])))
def zw2:AC:=sr [bt 25 .lss 24 23] (seq (cn 25 skip (exit 2)) (seq (block 3 (sr [ix 26 4 22 24,lg 27 4 26,alloc 9 zoc,su 4 9 27] (seq (sr [ft 28 0 7,lf 29 1 28,bi 30 .neq 29 4,mt 31 30,(gf 31,ft 32 0 9),(gf 31,lf 33 1 32),(gf 31,bi 34 .neq 33 4),ou 35 31 34,mt 36 35,(gf 36,ft 37 1 7),(gf 36,lf 38 1 37),(gf 36,ft 39 1 9),(gf 36,lf 40 1 39),(gf 36,bt 41 .neq 38 40),ou 42 36 41,mt 43 42,(gf 43,lg 44 3 2),(gf 43,ft 45 3 7),(gf 43,lf 46 1 45),(gf 43,ft 47 3 9),(gf 43,lf 48 1 47),(gf 43,.call (some 49) zkT [t 44,t 46,t 48]),(gf 43,nu 50 49),ou 51 43 50] (ci 51 (exit 3))) (sr [mv 10 (.c (.full []))] (seq (sr [ft 52 3 7,lf 53 1 52,ln 54 53,mi 55 0] (block 4 (loop zw1))) (regd [mt 74 5,mt 75 10,ka 76 zZI 75,lg 77 3 2,lg 78 4 7,lg 79 4 9,kc 80 zxa [t 77,t 78,t 79],kc 81 zwn [.c (.d (.int .i64 17)),t 76,t 80],bsl 82 4 [t 81],ap 83 4 56 74 82,mt 5 83])))))) (reg [bi 84 .add 24 1,mt 24 84])))
def zw3:AC:=sr [bt 15 .lss 14 13] (seq (cn 15 skip (exit 0)) (seq (block 1 (sr [mt 16 14,ix 17 4 12 14,lg 18 4 17,alloc 7 zoc,mt 6 16,su 4 7 18] (sr [mt 19 1,mt 20 6,bi 21 .add 20 1,lfrom 22 4 (t 19) (t 21),ln 23 22,mi 24 0] (block 2 (loop zw2))))) (reg [bi 85 .add 14 1,mt 14 85])))
def zZ1:FnA:=⟨87,sr [box 2 (t 0),mv 4 (.c (.full []))] (sr [mv 5 (.c (.full []))] (seq (sr [mt 12 1,ln 13 12,mi 14 0] (block 0 (loop zw3))) (rr [mt 86 5,mt 4 86]))),[.t 4]⟩
def zkH:FnA:=⟨19,sr [box 2 (t 0),box 3 (t 1),mv 4 (.c (.d (.str []))),mi 5 0] (seq (sr [lg 8 4 3,ka 9 zws 8,mt 6 9] (sr [mt 10 6,bi 11 .neq 10 0] (ci 11 (rr [mt 12 6,mv 4 (.c (.d (.str []))),mt 5 12])))) (sr [alloc 7 [.d (.nilf)]] (sr [mkf 13 zyd [t 7,t 2],su 1 7 13] (rr [lf 14 1 7,lg 15 4 3,call (some 16) (t 14) [t 15],eu 17 16 0,eu 18 16 1,mt 4 17,mt 5 18])))),[.t 4,.t 5]⟩
def zYa:AC:=reg [alloc 3 zoc,su 4 3 13]
def zYb:AC:=block 1 (sr [lg 14 4 3,ka 15 zjI 14,mt 4 15] (sr [mt 16 4,bi 17 .neq 16 0] (ci 17 (rr [mt 18 4,su 1 2 18]))))
def zKd:FnA:=⟨19,sr [box 1 (t 0),alloc 2 [(0:Int)]] (seq (sr [lg 5 4 1,ka 6 zvc 5,bi 7 .gtr 6 400] (ci 7 (rr [st 1 (t 2) (7:Int)]))) (seq (sr [lg 8 4 1,ka 9 zvb 8,bi 10 .gtr 9 40] (ci 10 (rr [st 1 (t 2) (8:Int)]))) (seq (sr [lg 11 4 1,ka 12 zkb 11] (block 0 (.rng (t 12) [13] [13,3,14,15,4,16,17,18] zYa zYb))) (rr [st 1 (t 2) (0:Int)])))),[.c 2 false 1]⟩
def zYM:FnA:=⟨23,sr [box 2 (t 0),box 3 (t 1),mi 4 0] (seq (sr [lg 7 4 3,build 8 zoc [],kb 9 zyc 7 8] (ci 9 (rr [mi 4 0]))) (sr [lg 11 3 2,lg 12 4 3,kb 13 zzF 11 12,mt 10 13,eu 14 10 0,eu 15 10 1,mt 5 14,mt 6 15] (seq (sr [mt 16 6,bi 17 .eql 16 0,mt 18 17,(gt 18,mt 19 5),(gt 18,bq 20 .neq 19 (.c (.d (.str [66,111,111,108])))),an 21 18 20] (ci 21 (rr [mi 4 11]))) (rr [mt 22 6,mt 4 22])))),[.t 4]⟩
def zwA:AC:=seq (sr [mt 43 10,lf 44 1 7,nck 45 (t 44),ft 46 5 45,lf 47 1 46,ln 48 47,bt 49 .lss 43 48,mt 50 49,(gt 50,lf 51 1 7),(gt 50,.nck 52 (t 51)),(gt 50,ft 53 7 52),(gt 50,lf 54 1 53),(gt 50,nu 55 54),an 56 50 55] (cn 56 skip (exit 0))) (seq (block 1 (.scope (seq (.regk [59,69,70,73,76] [lf 59 1 8,lf 60 1 7,lf 61 1 7,nck 62 (t 61),ft 63 5 62,lf 64 1 63,mt 65 10,ix 66 1 64 65,lf 67 1 66,kd 68 zzQ [t 60,t 67,.c (.d (.bool false))],lf 69 1 7,lf 70 1 7,nck 71 (t 70),ft 72 5 71,lf 73 1 72,mt 74 10,ix 75 1 73 74,lf 76 1 75,kd 77 zzQ [t 69,t 76,.c (.d (.bool true))],ln 78 59,bslz 79 4 [.c (.agg zoc),.c (.agg zoc)]]) (.alt (.alt (sr [ap 80 4 56 59 79] (.alt (.alt (sr [ix 81 4 80 78] (.alt (.alt (sr [su 4 81 68] (.alt (sr [bi 82 .add 78 1] (.alt (sr [ix 83 4 80 82] (.alt (sr [su 4 83 77] (sr [su 1 8 80] skip)) (sr [su 1 8 80] (sr [su 4 83 77] skip)))) (sr [su 1 8 80] (sr [ix 83 4 80 82] (sr [su 4 83 77] skip))))) (sr [su 1 8 80] (sr [bi 82 .add 78 1] (sr [ix 83 4 80 82] (sr [su 4 83 77] skip)))))) (sr [bi 82 .add 78 1] (.alt (sr [su 4 81 68] (.alt (sr [ix 83 4 80 82] (.alt (sr [su 4 83 77] (sr [su 1 8 80] skip)) (sr [su 1 8 80] (sr [su 4 83 77] skip)))) (sr [su 1 8 80] (sr [ix 83 4 80 82] (sr [su 4 83 77] skip))))) (sr [su 1 8 80] (sr [su 4 81 68] (sr [ix 83 4 80 82] (sr [su 4 83 77] skip))))))) (sr [su 1 8 80] (.alt (sr [su 4 81 68] (sr [bi 82 .add 78 1] (sr [ix 83 4 80 82] (sr [su 4 83 77] skip)))) (sr [bi 82 .add 78 1] (sr [su 4 81 68] (sr [ix 83 4 80 82] (sr [su 4 83 77] skip)))))))) (sr [bi 82 .add 78 1] (.alt (sr [ix 81 4 80 78] (.alt (sr [su 4 81 68] (.alt (sr [ix 83 4 80 82] (.alt (sr [su 4 83 77] (sr [su 1 8 80] skip)) (sr [su 1 8 80] (sr [su 4 83 77] skip)))) (sr [su 1 8 80] (sr [ix 83 4 80 82] (sr [su 4 83 77] skip))))) (sr [su 1 8 80] (sr [su 4 81 68] (sr [ix 83 4 80 82] (sr [su 4 83 77] skip)))))) (sr [su 1 8 80] (sr [ix 81 4 80 78] (sr [su 4 81 68] (sr [ix 83 4 80 82] (sr [su 4 83 77] skip)))))))) (sr [su 1 8 80] (.alt (sr [ix 81 4 80 78] (.alt (sr [su 4 81 68] (sr [bi 82 .add 78 1] (sr [ix 83 4 80 82] (sr [su 4 83 77] skip)))) (sr [bi 82 .add 78 1] (sr [su 4 81 68] (sr [ix 83 4 80 82] (sr [su 4 83 77] skip)))))) (sr [bi 82 .add 78 1] (sr [ix 81 4 80 78] (sr [su 4 81 68] (sr [ix 83 4 80 82] (sr [su 4 83 77] skip))))))))) (sr [bi 82 .add 78 1] (sr [ap 80 4 56 59 79] (.alt (sr [ix 81 4 80 78] (.alt (sr [su 4 81 68] (.alt (sr [ix 83 4 80 82] (.alt (sr [su 4 83 77] (sr [su 1 8 80] skip)) (sr [su 1 8 80] (sr [su 4 83 77] skip)))) (sr [su 1 8 80] (sr [ix 83 4 80 82] (sr [su 4 83 77] skip))))) (sr [su 1 8 80] (sr [su 4 81 68] (sr [ix 83 4 80 82] (sr [su 4 83 77] skip)))))) (sr [su 1 8 80] (sr [ix 81 4 80 78] (sr [su 4 81 68] (sr [ix 83 4 80 82] (sr [su 4 83 77] skip))))))))) (seq (regd [bi 82 .add 78 1]) (sr [ap 80 4 56 59 79] (.alt (sr [ix 81 4 80 78] (.alt (sr [su 4 81 68] (.alt (sr [ix 83 4 80 82] (.alt (sr [su 4 83 77] (sr [su 1 8 80] skip)) (sr [su 1 8 80] (sr [su 4 83 77] skip)))) (sr [su 1 8 80] (sr [ix 83 4 80 82] (sr [su 4 83 77] skip))))) (sr [su 1 8 80] (sr [su 4 81 68] (sr [ix 83 4 80 82] (sr [su 4 83 77] skip)))))) (sr [su 1 8 80] (sr [ix 81 4 80 78] (sr [su 4 81 68] (sr [ix 83 4 80 82] (sr [su 4 83 77] skip)))))))))))) (reg [mt 57 10,bi 58 .add 57 1,mt 10 58]))
def zqR:FnA:=⟨103,sr [box 2 (t 0),box 3 (t 1),alloc 4 zob,mi 5 0] (seq (sr [lg 11 3 2,lg 12 4 3,kb 13 zwi 11 12,mt 6 13] (sr [mt 14 6,bi 15 .neq 14 0] (ci 15 (rr [build 16 zob [],mt 17 6,su 5 4 16,mt 5 17])))) (seq (sr [lg 18 4 3,ka 19 zji 18,ln 20 19,bi 21 .gtr 20 0] (ci 21 (rr [build 22 zob [],su 5 4 22,mi 5 6]))) (sr [lg 23 3 2,mkm 24 zzN zxk,mkm 25 zzN zyY,build 26 [.full [],.full [],.full [],.undef,.full [],.full [],.undef,.d (.bool false)] [(0,3,t 23),(3,1,t 24),(6,1,t 25)],box 27 (t 26),alloc 7 [.d (.nilp)],su 1 7 27] (sr [alloc 8 [.full []]] (sr [alloc 9 [.d (.nilf)]] (sr [mkf 28 zzy [t 7,t 8,t 9],su 1 9 28] (seq (sr [lg 29 4 3,build 30 zoc [],kb 31 zyc 29 30,nu 32 31] (ci 32 (reg [lf 33 1 9,lg 34 4 3,bsl 35 4 [t 34],call (some 36) (t 33) [t 35]]))) (seq (.scope (seq (regd [lf 37 1 9,lg 38 3 2,lg 39 4 3,ka 40 zwS 39,kb 41 zy3 38 40]) (sr [call (some 42) (t 37) [t 41]] skip))) (seq (sr [mi 10 0] (block 0 (loop zwA))) (seq (sr [lf 84 1 7,nck 85 (t 84),ft 86 7 85,lf 87 1 86] (ci 87 (rr [build 88 zob [],su 5 4 88,mi 5 2]))) (seq (sr [lf 89 1 7,nck 90 (t 89),ft 91 4 90,lf 92 1 91,ln 93 92,bi 94 .gtr 93 40] (ci 94 (rr [build 95 zob [],su 5 4 95,mi 5 7]))) (seq (regd [lf 96 1 8,ka 97 zZI 96,lf 98 1 7,nck 99 (t 98),ft 100 4 99,lf 101 1 100,build 102 zob [(0,4,t 97),(4,1,t 101)],su 5 4 102,mi 5 0]) ret)))))))))))),[.c 4 true 5,.t 5]⟩
def zzZ:FnA:=⟨122,sr [box 2 (t 0),mi 4 0] (seq (sr [ft 9 0 2,lf 10 1 9] (block 0 (sr [bi 12 .eql 10 2,mt 11 12] (cn 11 (seq (sr [ft 13 3 2,lf 14 1 13,ln 15 14,bi 16 .gtr 15 0] (ci 16 (rr [mv 4 (-1:Int)]))) (rr [ft 17 2 2,lf 18 1 17,bi 19 .eql 18 1,ka 20 zxx 19,mt 4 20])) (seq (sr [bi 22 .eql 10 13,mt 21 22] (cn 21 skip (reg [bi 23 .eql 10 10,mt 21 23]))) (cn 21 (sr [lg 25 4 2,mt 26 1,kb 27 zv7 25 26,mt 24 27,eu 28 24 0,eu 29 24 1,mt 5 28,mt 6 29] (seq (sr [mt 30 6,nu 31 30] (ci 31 (rr [mv 4 (-1:Int)]))) (rr [mt 32 5,bi 33 .eql 32 0,mt 34 33,(gf 34,ft 35 0 2),(gf 34,lf 36 1 35),(gf 34,bi 37 .eql 36 13),(gf 34,mt 38 37),(gt 38,mt 39 5),(gt 38,bi 40 .lss 39 0),(gf 34,an 41 38 40),ou 42 34 41,ka 43 zxx 42,mt 4 43]))) (sr [bi 45 .eql 10 14,mt 44 45] (ci 44 (seq (sr [ft 46 3 2,lf 47 1 46,ln 48 47,bi 49 .eql 48 1] (ci 49 (rr [ft 50 3 2,lf 51 1 50,idx 52 4 (t 51) (0:Int),lg 53 4 52,mt 54 1,kb 55 zyw 53 54,ka 56 zye 55,mt 4 56]))) (rr [mv 4 (-1:Int)])))))))))) (seq (sr [ft 57 3 2,lf 58 1 57,ln 59 58,bi 60 .neq 59 2,mt 61 60,(gf 61,ft 62 0 2),(gf 61,lf 63 1 62),(gf 61,bi 64 .lss 63 15),ou 65 61 64,mt 66 65,(gf 66,ft 67 0 2),(gf 66,lf 68 1 67),(gf 66,bi 69 .gtr 68 18),ou 70 66 69] (ci 70 (rr [mv 4 (-1:Int)]))) (sr [ft 71 3 2,lf 72 1 71,idx 73 4 (t 72) (0:Int),lg 74 4 73,mt 75 1,kb 76 zyw 74 75,mt 7 76] (seq (sr [ft 77 0 2,lf 78 1 77,bi 79 .eql 78 15,mt 80 79,(gt 80,mt 81 7),(gt 80,bi 82 .eql 81 0),an 83 80 82] (ci 83 (rr [mi 4 0]))) (sr [ft 84 3 2,lf 85 1 84,idx 86 4 (t 85) (1:Int),lg 87 4 86,mt 88 1,kb 89 zyw 87 88,mt 8 89] (seq (sr [ft 90 0 2,lf 91 1 90] (block 1 (sr [bi 93 .eql 91 15,mt 92 93] (cn 92 (rr [mt 94 7,mt 95 8,kb 96 zkf 94 95,mt 4 96]) (sr [bi 98 .eql 91 16,mt 97 98] (cn 97 (rr [mt 99 7,ka 100 zye 99,mt 101 8,ka 102 zye 101,kb 103 zkf 100 102,ka 104 zye 103,mt 4 104]) (sr [bi 106 .eql 91 17,mt 105 106] (ci 105 (rr [mt 107 7,mt 108 8,ka 109 zye 108,kb 110 zkf 107 109,ka 111 zye 110,mt 4 111]))))))))) (seq (sr [mt 112 7,bi 113 .lss 112 0,mt 114 113,(gf 114,mt 115 8),(gf 114,bi 116 .lss 115 0),ou 117 114 116] (ci 117 (rr [mv 4 (-1:Int)]))) (rr [mt 118 7,mt 119 8,bt 120 .eql 118 119,ka 121 zxx 120,mt 4 121])))))))),[.t 4]⟩
def zvL:AC:=sr [bt 15 .lss 14 13] (seq (cn 15 skip (exit 0)) (seq (block 1 (sr [mt 16 14,mt 6 16] (seq (regd [mt 18 0,mt 19 6,ix 20 2 18 19,lg 21 2 20,mt 22 1,mt 23 6,ix 24 1 22 23,lf 25 1 24,kb 26 zqK 21 25,mt 17 26,eu 27 17 0,eu 28 17 1,alloc 7 zoe,su 3 7 27,mt 8 28]) (sr [mt 29 8] (ci 29 (reg [mt 30 5,lg 31 3 7,bsl 32 3 [t 31],ap 33 3 40 30 32,mt 5 33])))))) (reg [bi 34 .add 14 1,mt 14 34])))
def zW5:FnA:=⟨36,sr [mv 4 (.c (.full []))] (sr [mv 5 (.c (.full []))] (seq (sr [mt 9 0,ln 10 9,mt 11 1,ln 12 11,min 13 (t 10) (t 12),mi 14 0] (block 0 (loop zvL))) (rr [mt 35 5,mt 4 35]))),[.t 4]⟩
def zjo:AC:=seq (sr [mt 11 7,mt 12 0,ln 13 12,bt 14 .lss 11 13] (cn 14 skip (exit 0))) (seq (block 1 (sr [mt 18 0,mt 19 7,ix 20 2 18 19,lg 21 2 20,mt 22 1,kb 23 zx7 21 22,mt 17 23,eu 24 17 0,eu 25 17 1,mt 8 24,mt 9 25] (seq (sr [mt 26 9,nu 27 26] (ci 27 (rr [mv 4 (.c (.full [])),mv 5 false]))) (sr [mi 10 0] (seq (sr [mt 28 8,bi 29 .lss 28 0] (ci 29 (reg [mv 10 (-1:Int)]))) (seq (sr [mt 30 8,bi 31 .gtr 30 0] (ci 31 (reg [mi 10 1]))) (reg [mt 32 6,mt 33 10,bsl 34 1 [t 33],ap 35 1 8 32 34,mt 6 35]))))))) (reg [mt 15 7,bi 16 .add 15 1,mt 7 16]))
def zVQ:FnA:=⟨37,sr [mv 4 (.c (.full [])),mv 5 false] (sr [mv 6 (.c (.full []))] (seq (sr [mi 7 0] (block 0 (loop zjo))) (rr [mt 36 6,mt 4 36,mv 5 true]))),[.t 4,.t 5]⟩
def zky:AC:=sr [bt 22 .lss 21 20] (seq (cn 22 skip (exit 0)) (seq (block 1 (sr [ix 23 2 19 21,lg 24 2 23,alloc 8 zog,su 2 8 24] (sr [mi 9 0] (seq (sr [mt 25 1,mkf 26 zyq [t 8],kb 27 zzu 25 26,mt 10 27] (sr [mt 28 10,bi 29 .geq 28 0] (ci 29 (reg [mt 30 1,mt 31 10,ix 32 2 30 31,ft 33 1 32,lf 34 1 33,mt 9 34])))) (sr [ft 36 1 8,lf 37 1 36,mt 38 9,kb 39 zqD 37 38,mt 35 39,eu 40 35 0,eu 41 35 1,mt 11 40,mt 12 41] (seq (sr [mt 42 12,nu 43 42] (ci 43 (rr [mi 4 0,mv 5 false]))) (sr [mt 45 6,mt 46 11,kb 47 zYZ 45 46,mt 44 47,eu 48 44 0,eu 49 44 1,mt 6 48,mt 12 49] (sr [mt 50 12,nu 51 50] (ci 51 (rr [mi 4 0,mv 5 false])))))))))) (reg [bi 52 .add 21 1,mt 21 52])))
def zYz:FnA:=⟨54,sr [box 2 (t 0),mi 4 0,mv 5 false] (seq (sr [lg 13 2 2,ka 14 zyj 13,bi 15 .neq 14 0] (ci 15 (rr [mi 4 0,mv 5 false]))) (sr [ft 16 1 2,lf 17 1 16,mt 6 17] (seq (sr [ft 18 0 2,lf 19 1 18,ln 20 19,mi 21 0] (block 0 (loop zky))) (rr [mt 53 6,mt 4 53,mv 5 true])))),[.t 4,.t 5]⟩
def zxn:AC:=sr [bt 31 .lss 30 29] (seq (cn 31 skip (exit 2)) (seq (block 3 (sr [ix 32 3 28 30,lg 33 3 32,alloc 7 [.d (.str []),.full [],(0:Int)],su 3 7 33] (sr [mt 35 3,ft 36 1 7,lf 37 1 36,ka 38 zka 37,mget 39 true zzN zxk (.str []) (MV.one (.int .i64 0)) (t 35) (t 38),mt 34 39,eu 40 34 0,eu 41 34 1,mt 8 40,mt 9 41] (sr [ft 42 0 7,lf 43 1 42,ft 44 0 5,lf 45 1 44,bt 46 .eql 43 45,mt 47 46,(gt 47,mt 48 9),an 49 47 48,mt 50 49,(gt 50,mt 51 8),(gt 50,ft 52 2 7),(gt 50,lf 53 1 52),(gt 50,bt 54 .neq 51 53),an 55 50 54] (ci 55 (rr [mv 2 false])))))) (reg [bi 56 .add 30 1,mt 30 56])))
def zxo:AC:=sr [bt 14 .lss 13 12] (seq (cn 14 skip (exit 0)) (seq (block 1 (sr [mt 15 13,ix 16 3 11 13,lg 17 3 16,alloc 5 [.d (.str []),.full [],(0:Int)],mt 4 15,su 3 5 17] (sr [mt 18 3,mclr (t 18)] (seq (regd [mt 19 3,ft 20 1 5,lf 21 1 20,ka 22 zka 21,ft 23 2 5,lf 24 1 23,mput zzN zxk (.str []) (t 19) (t 22) (t 24)]) (sr [mt 25 0,mt 26 4,bi 27 .add 26 1,lfrom 28 3 (t 25) (t 27),ln 29 28,mi 30 0] (block 2 (loop zxn))))))) (reg [bi 57 .add 13 1,mt 13 57])))
def zvw:FnA:=⟨58,sr [mv 2 false] (sr [mkm 10 zzN zxk,mt 3 10] (seq (sr [mt 11 0,ln 12 11,mi 13 0] (block 0 (loop zxo))) (rr [mv 2 true]))),[.t 2]⟩
def zZ6:FnA:=⟨23,sr [box 3 (t 0),mv 6 false,mv 7 false] (seq (sr [lg 10 4 3,build 11 zoc [],kb 12 zyc 10 11] (ci 12 (rr [mv 6 true,mv 7 true]))) (sr [lg 14 4 3,mt 15 1,mt 16 2,kc 17 zxD [t 14,t 15,t 16],mt 13 17,eu 18 13 0,eu 19 13 1,mt 8 18,mt 9 19] (rr [mt 20 8,bi 21 .neq 20 0,mt 22 9,mt 6 21,mt 7 22]))),[.t 6,.t 7]⟩
def zQl:AC:=seq (sr [mt 11 6,mt 12 5,ln 13 12,bt 14 .lss 11 13] (cn 14 skip (exit 0))) (seq (block 1 (sr [mt 18 1,mt 19 5,mt 20 6,ix 21 1 19 20,lf 22 1 21,kb 23 zZR 18 22,mt 17 23,eu 24 17 0,eu 25 17 1,mt 7 24,mt 8 25] (sr [mt 26 8,nu 27 26] (ci 27 (rr [mv 4 false]))))) (reg [mt 15 6,bi 16 .add 15 1,mt 6 16]))
def yw3:FnA:=⟨28,sr [box 2 (t 0),mv 4 false] (sr [lg 9 4 2,ka 10 zq9 9,mt 5 10] (seq (sr [mi 6 0] (block 0 (loop zQl))) (rr [mv 4 true]))),[.t 4]⟩
def zJr:AC:=seq (sr [mt 56 13,mt 57 12,ln 58 57,bt 59 .lss 56 58] (cn 59 skip (exit 2))) (seq (block 3 (seq (regd [lg 63 3 4,mt 64 12,mt 65 13,ix 66 4 64 65,lg 67 4 66,kb 68 zzF 63 67,mt 62 68,eu 69 62 0,eu 70 62 1,mt 14 69,mt 15 70]) (sr [mt 72 12,mt 73 13,ix 74 4 72 73,lg 75 4 74,mt 76 2,mt 77 3,kc 78 zxD [t 75,t 76,t 77],mt 71 78,eu 79 71 0,eu 80 71 1,mt 16 79,mt 17 80] (sr [mt 81 14,bq 82 .eql 81 (.c (.d (.str [66,111,111,108]))),mt 83 82,(gt 83,mt 84 17),an 85 83 84,mt 86 85,(gt 86,mt 87 16),(gt 86,bi 88 .neq 87 0),an 89 86 88,mt 90 89,(gt 90,mt 91 16),(gt 90,bi 92 .neq 91 1),an 93 90 92] (ci 93 (rr [mv 8 false])))))) (reg [mt 60 13,bi 61 .add 60 1,mt 13 61]))
def zJs:AC:=seq (sr [mt 18 9,ft 19 0 4,lf 20 1 19,ln 21 20,bt 22 .lss 18 21] (cn 22 skip (exit 0))) (seq (block 1 (sr [mt 26 2,ft 27 0 4,lf 28 1 27,mt 29 9,ix 30 2 28 29,ft 31 0 30,lf 32 1 31,kb 33 zZR 26 32,mt 25 33,eu 34 25 0,eu 35 25 1,mt 10 34,mt 11 35] (sr [ft 36 0 4,lf 37 1 36,mt 38 9,ix 39 2 37 38,ft 40 1 39,lf 41 1 40,bq 42 .eql 41 (.c (.d (.str [66,111,111,108]))),mt 43 42,(gt 43,mt 44 11),an 45 43 44,mt 46 45,(gt 46,mt 47 10),(gt 46,bi 48 .neq 47 0),an 49 46 48,mt 50 49,(gt 50,mt 51 10),(gt 50,bi 52 .neq 51 1),an 53 50 52] (ci 53 (rr [mv 8 false]))))) (reg [mt 23 9,bi 24 .add 23 1,mt 9 24]))
def yxI:FnA:=⟨94,sr [box 4 (t 0),box 5 (t 1),mv 8 false] (seq (sr [mi 9 0] (block 0 (loop zJs))) (sr [lg 54 4 5,ka 55 zwS 54,mt 12 55] (seq (sr [mi 13 0] (block 2 (loop zJr))) (rr [mv 8 true])))),[.t 8]⟩
def zW7:AC:=seq (sr [mt 15 10,mt 16 9,ln 17 16,bt 18 .lss 15 17] (cn 18 skip (exit 0))) (seq (block 1 (sr [mt 22 9,mt 23 10,ix 24 4 22 23,lg 25 4 24,mt 26 1,mt 27 2,kc 28 zxD [t 25,t 26,t 27],mt 21 28,eu 29 21 0,eu 30 21 1,mt 11 29,mt 12 30] (seq (sr [mt 31 12,nu 32 31] (ci 32 (rr [mv 6 (.c (.full [])),mv 7 false]))) (reg [mt 33 8,mt 34 9,mt 35 10,ix 36 4 34 35,lg 37 4 36,ka 38 zyx 37,mt 39 11,build 40 zog [(0,1,t 38),(1,1,t 39)],bsl 41 2 [t 40],ap 42 2 24 33 41,mt 8 42])))) (reg [mt 19 10,bi 20 .add 19 1,mt 10 20]))
def zQk:FnA:=⟨46,sr [box 3 (t 0),mv 6 (.c (.full [])),mv 7 false] (sr [mv 8 (.c (.full []))] (sr [lg 13 4 3,ka 14 zwS 13,mt 9 14] (seq (sr [mi 10 0] (block 0 (loop zW7))) (rr [mt 43 8,mt 44 1,ap 45 2 24 43 44,mt 6 45,mv 7 true])))),[.t 6,.t 7]⟩
def zjv:AC:=sr [bt 10 .lss 9 8] (seq (cn 10 skip (exit 0)) (seq (block 1 (sr [ix 11 4 7 9,lg 12 4 11,alloc 5 zoc,su 4 5 12] (reg [mt 13 3,lg 14 4 5,ka 15 zvG 14,bt 16 .add 13 15,mt 3 16]))) (reg [bi 17 .add 9 1,mt 9 17])))
def zV8:FnA:=⟨19,sr [box 1 (t 0),mi 2 0] (sr [mi 3 1] (seq (sr [ft 6 3 1,lf 7 1 6,ln 8 7,mi 9 0] (block 0 (loop zjv))) (rr [mt 18 3,mt 2 18]))),[.t 2]⟩
def yyh:FnA:=⟨9,sr [alloc 0 [.full [],.full [],.full []]] (rr [build 1 [.d (.str []),.d (.str [])] [(0,1,.c (.d (.str [120]))),(1,1,.c (.d (.str [73,110,116])))],build 2 [.d (.str []),.d (.str [])] [(0,1,.c (.d (.str [121]))),(1,1,.c (.d (.str [73,110,116])))],build 3 [.d (.str []),.d (.str [])] [(0,1,.c (.d (.str [98]))),(1,1,.c (.d (.str [66,111,111,108])))],bsl 4 2 [t 1,t 2,t 3],bsl 5 1 [.c (.d (.str [73,110,116]))],build 6 zod [(0,1,.c (.d (.str [102]))),(1,1,t 5),(2,1,.c (.d (.str [73,110,116])))],bsl 7 3 [t 6],build 8 [.full [],.full [],.full []] [(0,1,t 4),(1,1,t 7)],su 3 0 8]),[.c 0 true 3]⟩
def yyi:FnA:=⟨12,sr [box 4 (t 1),box 5 (t 2),alloc 6 zoc] (rr [mt 7 0,lg 8 4 4,lg 9 4 5,bsl 10 4 [t 8,t 9],build 11 zoc [(0,1,t 7),(3,1,t 10)],su 4 6 11]),[.c 6 true 4]⟩
def yqd:FnA:=⟨5,sr [alloc 2 zoc] (rr [mt 3 0,build 4 zoc [(0,1,.c (.d (.int .i64 3))),(1,1,t 3)],su 4 2 4]),[.c 2 true 4]⟩
def yyg:FnA:=⟨9,sr [box 3 (t 1),alloc 4 zoc] (rr [mt 5 0,lg 6 4 3,bsl 7 4 [t 6],build 8 zoc [(0,1,.c (.d (.int .i64 4))),(1,1,t 5),(3,1,t 7)],su 4 4 8]),[.c 4 true 4]⟩
def yqc:FnA:=⟨5,sr [alloc 2 zoc] (rr [mt 3 0,build 4 zoc [(0,1,.c (.d (.int .i64 1))),(2,1,t 3)],su 4 2 4]),[.c 2 true 4]⟩
def zVT:FnA:=⟨5,sr [box 1 (t 0),mv 2 (.c (.full []))] (rr [lg 3 4 1,kc 4 zkn [t 3,.c (.d (.int .i64 4)),.c (.full [])],mt 2 4]),[.t 2]⟩
def zvM:AC:=sr [bt 23 .lss 22 21] (seq (cn 23 skip (exit 0)) (seq (block 1 (sr [ix 24 4 20 22,lg 25 4 24,alloc 5 zoc,su 4 5 25] (regd [ft 26 3 3,lf 27 1 26,lg 28 4 5,ka 29 zkU 28,bsl 30 4 [t 29],ap 31 4 56 27 30,ft 32 3 3,su 1 32 31]))) (reg [bi 33 .add 22 1,mt 22 33])))
def zZv:FnA:=⟨35,sr [box 1 (t 0),alloc 2 zoc] (seq (sr [ft 6 0 1,lf 7 1 6,bi 8 .eql 7 4] (ci 8 (rr [lg 9 4 1,ka 10 zyx 9,build 11 zoc [(0,1,.c (.d (.int .i64 3))),(1,1,t 10)],su 4 2 11]))) (sr [ft 12 0 1,lf 13 1 12,ft 14 1 1,lf 15 1 14,ft 16 2 1,lf 17 1 16,build 18 zoc [(0,1,t 13),(1,1,t 15),(2,1,t 17)],alloc 3 zoc,su 4 3 18] (seq (sr [ft 19 3 1,lf 20 1 19,ln 21 20,mi 22 0] (block 0 (loop zvM))) (rr [lg 34 4 3,su 4 2 34])))),[.c 2 true 4]⟩
def zvy:FnA:=⟨5,sr [mv 2 (.c (.d (.str [])))] (rr [mt 3 0,ka 4 zzH 3,mt 2 4]),[.t 2]⟩
def zv0:FnA:=⟨16,sr [mv 2 (.c (.d (.str [])))] (sr [build 4 zoa [(0,1,.c (.d (.str [43]))),(1,1,.c (.d (.str [45]))),(2,1,.c (.d (.str [42]))),(3,1,.c (.d (.str [45]))),(4,1,.c (.d (.str [61]))),(5,1,.c (.d (.str [33,61]))),(6,1,.c (.d (.str [60]))),(7,1,.c (.d (.str [60,61]))),(8,1,.c (.d (.str [33]))),(9,1,.c (.d (.str [38]))),(10,1,.c (.d (.str [124]))),(11,1,.c (.d (.str [61,62]))),(12,1,.c (.d (.str [60,61,62])))],alloc 3 zoa,su 13 3 4] (seq (sr [mt 5 0,bi 6 .lss 5 6,mt 7 6,(gf 7,mt 8 0),(gf 7,bi 9 .sub 8 6),(gf 7,bi 10 .geq 9 13),ou 11 7 10] (ci 11 (rr [mv 2 (.c (.d (.str [])))]))) (rr [mt 12 0,bi 13 .sub 12 6,aad 14 13 1 (t 3) (t 13),lf 15 1 14,mt 2 15]))),[.t 2]⟩
def zXP:FnA:=⟨11,sr [box 3 (t 0),mv 6 false] (rr [mt 7 1,mt 8 2,mkf 9 zyH [t 3],kc 10 zzi [t 7,t 8,t 9],mt 6 10]),[.t 6]⟩
def zqS:FnA:=⟨27,sr [box 3 (t 0),box 4 (t 1),box 5 (t 2),alloc 6 zoc] (seq (sr [lg 10 3 3,lg 11 4 4,kb 12 zzF 10 11,mt 9 12,eu 13 9 0,eu 14 9 1,mt 7 13,mt 8 14] (sr [mt 15 8,bi 16 .eql 15 0,mt 17 16,(gt 17,mt 18 7),(gt 17,bq 19 .eql 18 (.c (.d (.str [66,111,111,108])))),an 20 17 19] (ci 20 (rr [lg 21 4 4,lg 22 4 5,kc 23 zwn [.c (.d (.int .i64 18)),t 21,t 22],su 4 6 23])))) (rr [lg 24 4 4,lg 25 4 5,kc 26 zwn [.c (.d (.int .i64 10)),t 24,t 25],su 4 6 26])),[.c 6 true 4]⟩
def zQj:FnA:=⟨12,sr [box 4 (t 1),box 5 (t 2),alloc 6 zoc] (rr [mt 7 0,lg 8 4 4,lg 9 4 5,bsl 10 4 [t 8,t 9],build 11 zoc [(0,1,t 7),(3,1,t 10)],su 4 6 11]),[.c 6 true 4]⟩
def zqf:AC:=sr [bt 11 .lss 10 9] (seq (cn 11 skip (exit 0)) (seq (block 1 (sr [ix 12 4 8 10,lg 13 4 12,alloc 6 zoc,su 4 6 13] (block 2 (sr [lg 17 4 6,ka 18 zZb 17,mt 16 18] (cn 16 (exit 1) (seq (regd [lg 20 4 6,kc 21 zyL [.c (.d (.bool false))],kb 22 zyc 20 21,mt 19 22]) (cn 19 (rr [kc 23 zyL [.c (.d (.bool false))],su 4 2 23]) (sr [mt 25 4,mt 24 25] (cn 24 (regd [lg 26 4 3,lg 27 4 6,ka 28 zxM 27,bsl 29 4 [t 26,t 28],build 30 zoc [(0,1,.c (.d (.int .i64 15))),(3,1,t 29)],su 4 3 30]) (reg [lg 14 4 6,ka 15 zxM 14,su 4 3 15,mv 4 true])))))))))) (reg [bi 31 .add 10 1,mt 10 31])))
def zQm:FnA:=⟨33,sr [alloc 2 zoc] (sr [kc 7 zyL [.c (.d (.bool true))],alloc 3 zoc,su 4 3 7,mv 4 false] (seq (sr [mt 8 0,ln 9 8,mi 10 0] (block 0 (loop zqf))) (rr [lg 32 4 3,su 4 2 32]))),[.c 2 true 4]⟩
def zkI:AC:=sr [bt 15 .lss 14 13] (seq (cn 15 skip (exit 0)) (seq (block 1 (sr [ix 16 4 12 14,lg 17 4 16,alloc 8 zoc,su 4 8 17] (sr [lf 19 1 1,lg 20 4 8,call (some 21) (t 19) [t 20],mt 18 21,eu 22 18 0,eu 23 18 1,mt 9 22,mt 10 23] (seq (sr [mt 24 10,bi 25 .neq 24 0] (ci 25 (rr [mt 26 10,mv 4 (.c (.d (.str []))),mt 5 26]))) (reg [mt 27 6,mt 28 9,bsl 29 1 [t 28],ap 30 1 16 27 29,mt 6 30]))))) (reg [bi 31 .add 14 1,mt 14 31])))
def zYN:FnA:=⟨38,sr [box 3 (t 0),mv 4 (.c (.d (.str []))),mi 5 0] (sr [mv 6 (.c (.full []))] (seq (sr [ft 11 3 3,lf 12 1 11,ln 13 12,mi 14 0] (block 0 (loop zkI))) (rr [lg 32 3 2,lg 33 4 3,mt 34 6,kc 35 zks [t 32,t 33,t 34],eu 36 35 0,eu 37 35 1,mt 4 36,mt 5 37]))),[.t 4,.t 5]⟩
def zYO:FnA:=⟨57,sr [box 3 (t 0),box 4 (t 1),mv 6 (.c (.d (.str []))),mi 7 0] (seq (sr [ft 11 0 4,lf 12 1 11] (block 0 (sr [bi 14 .eql 12 1,mt 13 14] (cn 13 (rr [mv 6 (.c (.d (.str [73,110,116]))),mi 7 0]) (sr [bi 16 .eql 12 2,mt 15 16] (cn 15 (rr [mv 6 (.c (.d (.str [66,111,111,108]))),mi 7 0]) (sr [bi 18 .eql 12 3,mt 17 18] (cn 17 (sr [lg 20 3 3,ft 21 1 4,lf 22 1 21,kb 23 zXJ 20 22,mt 19 23,eu 24 19 0,eu 25 19 1,mt 8 24,mt 9 25] (seq (sr [mt 26 9,nu 27 26] (ci 27 (rr [mv 6 (.c (.d (.str []))),mi 7 5]))) (rr [mt 28 8,mt 6 28,mi 7 0]))) (sr [bi 30 .eql 12 4,mt 29 30] (cn 29 (rr [lg 31 3 3,ft 32 1 4,lf 33 1 32,mt 34 2,kc 35 zxw [t 31,t 33,t 34],eu 36 35 0,eu 37 35 1,mt 6 36,mt 7 37]) (sr [bi 39 .eql 12 5,mt 38 39] (ci 38 (rr [lg 40 3 3,ft 41 1 4,lf 42 1 41,mt 43 2,kc 44 zxS [t 40,t 42,t 43],eu 45 44 0,eu 46 44 1,mt 6 45,mt 7 46]))))))))))))) (sr [ft 47 0 4,lf 48 1 47,ka 49 zxT 48,alloc 10 zof,su 2 10 49] (seq (sr [ft 50 0 10,lf 51 1 50,mt 52 2,call (some 53) (t 51) [t 52],nu 54 53] (ci 54 (rr [mv 6 (.c (.d (.str []))),mi 7 11]))) (rr [ft 55 1 10,lf 56 1 55,mt 6 56,mi 7 0])))),[.t 6,.t 7]⟩
def zvR:AC:=sr [bt 10 .lss 9 8] (seq (cn 10 skip (exit 0)) (seq (block 1 (sr [ix 11 4 7 9,lg 12 4 11,alloc 5 zoc,su 4 5 12] (reg [mt 13 3,lg 14 4 5,ka 15 zvc 14,bt 16 .add 13 15,mt 3 16]))) (reg [bi 17 .add 9 1,mt 9 17])))
def zKg:FnA:=⟨19,sr [box 1 (t 0),mi 2 0] (sr [mi 3 1] (seq (sr [ft 6 3 1,lf 7 1 6,ln 8 7,mi 9 0] (block 0 (loop zvR))) (rr [mt 18 3,mt 2 18]))),[.t 2]⟩
def zvQ:AC:=sr [bt 10 .lss 9 8] (seq (cn 10 skip (exit 0)) (seq (block 1 (sr [ix 11 4 7 9,lg 12 4 11,alloc 5 zoc,su 4 5 12] (reg [mt 13 3,lg 14 4 5,ka 15 zvb 14,max 16 (t 13) (t 15),mt 3 16]))) (reg [bi 17 .add 9 1,mt 9 17])))
def zKe:FnA:=⟨20,sr [box 1 (t 0),mi 2 0] (sr [mi 3 0] (seq (sr [ft 6 3 1,lf 7 1 6,ln 8 7,mi 9 0] (block 0 (loop zvQ))) (rr [mt 18 3,bi 19 .add 18 1,mt 2 19]))),[.t 2]⟩
def zXX:FnA:=⟨4,sr [box 1 (t 0),mv 2 (.c (.d (.nilf)))] (rr [mkf 3 zz1 [t 1],mt 2 3]),[.t 2]⟩
def zVX:FnA:=⟨130,sr [box 1 (t 0),mi 2 0] (seq (sr [ft 7 0 1,lf 8 1 7,bi 9 .lss 8 1,mt 10 9,(gf 10,ft 11 0 1),(gf 10,lf 12 1 11),(gf 10,bi 13 .gtr 12 18),ou 14 10 13] (ci 14 (rr [mi 2 1]))) (sr [ft 16 0 1,lf 17 1 16,ka 18 zZa 17,mt 15 18,eu 19 15 0,eu 20 15 1,mt 3 19,mt 4 20] (seq (sr [(none,ft 21 0 1),(none,lf 22 1 21),(none,.call (some 23) zvd [t 22]),(none,nu 24 23),(none,mt 25 24),(gt 25,ft 26 1 1),(gt 25,lf 27 1 26),(gt 25,bq 28 .neq 27 (.c (.d (.str [])))),(none,an 29 25 28),(none,mt 30 29),(gf 30,ft 31 0 1),(gf 30,lf 32 1 31),(gf 30,bi 33 .neq 32 1),(gf 30,mt 34 33),(gt 34,ft 35 0 1),(gt 34,lf 36 1 35),(gt 34,bi 37 .neq 36 2),(gf 30,an 38 34 37),(gf 30,mt 39 38),(gt 39,ft 40 2 1),(gt 39,lf 41 1 40),(gt 39,bi 42 .neq 41 0),(gf 30,an 43 39 42),(none,ou 44 30 43),(none,mt 45 44),(gf 45,ft 46 3 1),(gf 45,lf 47 1 46),(gf 45,ln 48 47),(gf 45,mt 49 3),(gf 45,bt 50 .lss 48 49),(none,ou 51 45 50),(none,mt 52 51),(gf 52,ft 53 3 1),(gf 52,lf 54 1 53),(gf 52,ln 55 54),(gf 52,mt 56 4),(gf 52,bt 57 .gtr 55 56),(none,ou 58 52 57)] (ci 58 (rr [mi 2 1]))) (seq (sr [ft 59 0 1,lf 60 1 59,bi 61 .eql 60 1,mt 62 61,(gt 62,ft 63 2 1),(gt 62,lf 64 1 63),(gt 62,.call (some 65) zkm [t 64]),(gt 62,nu 66 65),an 67 62 66,mt 68 67,(gf 68,ft 69 0 1),(gf 68,lf 70 1 69),(gf 68,bi 71 .eql 70 2),(gf 68,mt 72 71),(gt 72,ft 73 2 1),(gt 72,lf 74 1 73),(gt 72,bi 75 .neq 74 0),(gf 68,an 76 72 75),(gf 68,mt 77 76),(gt 77,ft 78 2 1),(gt 77,lf 79 1 78),(gt 77,bi 80 .neq 79 1),(gf 68,an 81 77 80),ou 82 68 81] (ci 82 (rr [mi 2 2]))) (seq (sr [ft 83 0 1,lf 84 1 83,ka 85 zvd 84,mt 86 85,(gt 86,ft 87 1 1),(gt 86,lf 88 1 87),(gt 86,.call (some 89) zje [t 88]),(gt 86,bi 90 .neq 89 0),an 91 86 90] (ci 91 (sr [ft 92 0 1,lf 93 1 92,bi 94 .eql 93 3,mt 95 94,(gt 95,ft 96 1 1),(gt 95,lf 97 1 96),(gt 95,bq 98 .eql 97 (.c (.d (.str [118])))),an 99 95 98,mt 5 99] (sr [ft 100 0 1,lf 101 1 100,bi 102 .eql 101 4,mt 103 102,(gt 103,ft 104 1 1),(gt 103,lf 105 1 104),(gt 103,bq 106 .eql 105 (.c (.d (.str [116,97,103])))),(gt 103,mt 107 106),(gf 107,ft 108 1 1),(gf 107,lf 109 1 108),(gf 107,bq 110 .eql 109 (.c (.d (.str [118,97,108])))),(gt 103,ou 111 107 110),an 112 103 111,mt 6 112] (sr [mt 113 5,nu 114 113,mt 115 114,(gt 115,mt 116 6),(gt 115,nu 117 116),an 118 115 117] (ci 118 (rr [mi 2 3]))))))) (seq (sr [ft 119 0 1,lf 120 1 119,bi 121 .eql 120 8,mt 122 121,(gt 122,ft 123 3 1),(gt 122,lf 124 1 123),(gt 122,.idx 125 4 (t 124) (0:Int)),(gt 122,ft 126 0 125),(gt 122,lf 127 1 126),(gt 122,bi 128 .neq 127 1),an 129 122 128] (ci 129 (rr [mi 2 6]))) (rr [mi 2 0]))))))),[.t 2]⟩
def zVV:FnA:=⟨31,sr [box 2 (t 0),box 3 (t 1),mv 4 false] (rr [ft 5 0 2,lf 6 1 5,ft 7 0 3,lf 8 1 7,bt 9 .eql 6 8,mt 10 9,(gt 10,ft 11 1 2),(gt 10,lf 12 1 11),(gt 10,ft 13 1 3),(gt 10,lf 14 1 13),(gt 10,bt 15 .eql 12 14),an 16 10 15,mt 17 16,(gt 17,ft 18 2 2),(gt 17,lf 19 1 18),(gt 17,ft 20 2 3),(gt 17,lf 21 1 20),(gt 17,bt 22 .eql 19 21),an 23 17 22,mt 24 23,(gt 24,ft 25 3 2),(gt 24,lf 26 1 25),(gt 24,ft 27 3 3),(gt 24,lf 28 1 27),(gt 24,.call (some 29) zyo [t 26,t 28,.c (.d (.clo zyc []))]),an 30 24 29,mt 4 30]),[.t 4]⟩
def zKf:FnA:=⟨5,sr [box 1 (t 0),mv 2 (.c (.full []))] (rr [lg 3 4 1,kc 4 zkn [t 3,.c (.d (.int .i64 5)),.c (.full [])],mt 2 4]),[.t 2]⟩
def zxG:FnA:=⟨29,sr [mt 5 0,ln 6 5,bi 7 .gtr 6 0,mt 8 7,(gt 8,lf 9 1 1),(gt 8,.nck 10 (t 9)),(gt 8,ft 11 7 10),(gt 8,lf 12 1 11),(gt 8,nu 13 12),an 14 8 13] (ci 14 (seq (.scope (seq (.regk [15] [lf 15 1 2,lf 16 1 1,mt 17 0,idx 18 4 (t 17) (0:Int),lg 19 4 18,kd 20 zzq [t 16,t 19],ln 21 15,bslz 22 4 [.c (.agg zoc)]]) (sr [ap 23 4 56 15 22] (.alt (sr [ix 24 4 23 21] (.alt (sr [su 4 24 20] (sr [su 1 2 23] skip)) (sr [su 1 2 23] (sr [su 4 24 20] skip)))) (sr [su 1 2 23] (sr [ix 24 4 23 21] (sr [su 4 24 20] skip))))))) (.scope (seq (regd [lf 25 1 3,mt 26 0,lfrom 27 4 (t 26) (1:Int)]) (sr [call (some 28) (t 25) [t 27]] skip))))),[]⟩
def zyk:AC:=sr [bt 35 .lss 34 33] (seq (cn 35 skip (exit 1)) (seq (block 2 (sr [ix 36 4 32 34,lg 37 4 36,alloc 7 zoc,su 4 7 37] (.regd2 [ft 38 3 5,mt 40 0,lg 41 4 7] (lf 39 1 38) (kd 42 zzq [t 40,t 41]) [bsl 43 4 [t 42],ap 44 4 56 39 43,ft 45 3 5,su 1 45 44]))) (reg [bi 46 .add 34 1,mt 34 46])))
def zzD:FnA:=⟨48,sr [box 3 (t 1),alloc 4 zoc] (seq (sr [ft 8 0 3,lf 9 1 8] (block 0 (sr [bi 11 .eql 9 2,mt 10 11] (cn 10 (rr [lg 12 4 3,su 4 4 12]) (seq (sr [bi 14 .eql 9 3,mt 13 14] (cn 13 skip (reg [bi 15 .eql 9 4,mt 13 15]))) (cn 13 (rr [mt 16 0,lg 17 4 3,ka 18 zyx 17,kd 19 zz5 [t 16,t 18],su 4 4 19]) (seq (sr [bi 21 .eql 9 10,mt 20 21] (cn 20 skip (sr [bi 22 .eql 9 11,mt 20 22] (cn 20 skip (sr [bi 23 .eql 9 12,mt 20 23] (cn 20 skip (reg [bi 24 .eql 9 13,mt 20 24]))))))) (ci 20 (rr [mt 25 0,lg 26 4 3,kd 27 zzU [t 25,t 26],su 4 4 27]))))))))) (sr [ft 28 0 3,lf 29 1 28,build 30 zoc [(0,1,t 29)],alloc 5 zoc,su 4 5 30] (seq (sr [ft 31 3 3,lf 32 1 31,ln 33 32,mi 34 0] (block 1 (loop zyk))) (rr [lg 47 4 5,su 4 4 47])))),[.c 4 true 4]⟩
def zxc:FnA:=⟨29,sr [alloc 6 zoc] (sr [mt 8 0,mt 9 1,kd 10 zzo [t 8,t 9],alloc 7 zoh,su 2 7 10] (seq (sr [mt 11 2] (ci 11 (rr [mt 12 0,mt 13 0,lg 14 2 7,build 15 zoh [(1,1,.c (.d (.int .i64 (-1))))],kb 16 zyz 14 15,eu 17 16 0,eu 18 16 1,kd 19 zzj [t 13,t 17,t 18],kd 20 zzx [t 12,t 19],su 4 6 20]))) (rr [mt 21 0,mt 22 0,lg 23 2 7,kc 24 zyv [t 23,.c (.d (.int .i64 (-1)))],eu 25 24 0,eu 26 24 1,kd 27 zzj [t 22,t 25,t 26],kd 28 zzx [t 21,t 27],su 4 6 28]))),[.c 6 true 4]⟩
def zYv:FnA:=⟨4,sr [mi 2 0] (seq (sr [mt 3 0] (ci 3 (rr [mi 2 1]))) (rr [mi 2 0])),[.t 2]⟩
def zkw:FnA:=⟨84,sr [box 2 (t 0),mi 4 0,mv 5 false] (seq (seq (regd [ft 8 3 2,lf 9 1 8,ln 10 9,bi 11 .neq 10 2,mt 12 11,(gf 12,ft 13 3 2),(gf 12,lf 14 1 13),(gf 12,.idx 15 4 (t 14) (0:Int)),(gf 12,lg 16 4 15),(gf 12,ft 17 3 2),(gf 12,lf 18 1 17),(gf 12,.idx 19 4 (t 18) (0:Int)),(gf 12,ft 20 1 19),(gf 12,lf 21 1 20),(gf 12,.build 22 zoc [(0,1,.c (.d (.int .i64 3))),(1,1,t 21)]),(gf 12,.call (some 23) zyc [t 16,t 22]),(gf 12,nu 24 23),ou 25 12 24,mt 26 25,(gf 26,ft 27 3 2),(gf 26,lf 28 1 27),(gf 26,.idx 29 4 (t 28) (1:Int)),(gf 26,lg 30 4 29),(gf 26,.build 31 zoc [(0,1,.c (.d (.int .i64 1)))]),(gf 26,.call (some 32) zyc [t 30,t 31]),(gf 26,nu 33 32),ou 34 26 33]) (ci 34 (rr [mi 4 0,mv 5 false]))) (sr [ft 36 3 2,lf 37 1 36,idx 38 4 (t 37) (0:Int),ft 39 1 38,lf 40 1 39,ka 41 strconv_Atoi 40,mt 35 41,eu 42 35 0,eu 43 35 1,mt 6 42,mt 7 43] (seq (seq (regd [(none,mt 44 7),(none,.ieq 45 true (t 44)),(none,mt 46 45),(gf 46,mt 47 6),(gf 46,.call (some 48) strconv_Itoa [t 47]),(gf 46,ft 49 3 2),(gf 46,lf 50 1 49),(gf 46,.idx 51 4 (t 50) (0:Int)),(gf 46,ft 52 1 51),(gf 46,lf 53 1 52),(gf 46,bt 54 .neq 48 53),(none,ou 55 46 54),(none,mt 56 55),(gf 56,mt 57 6),(gf 56,bi 58 .lss 57 0),(none,ou 59 56 58),(none,mt 60 59),(gf 60,mt 61 6),(gf 60,mt 62 1),(gf 60,ln 63 62),(gf 60,bt 64 .geq 61 63),(none,ou 65 60 64),(none,mt 66 65),(gf 66,mt 67 1),(gf 66,mt 68 6),(gf 66,ix 69 1 67 68),(gf 66,lf 70 1 69),(gf 66,bq 71 .lss 70 (-1:Int)),(none,ou 72 66 71),(none,mt 73 72),(gf 73,mt 74 1),(gf 73,mt 75 6),(gf 73,ix 76 1 74 75),(gf 73,lf 77 1 76),(gf 73,bi 78 .gtr 77 1),(none,ou 79 73 78)]) (ci 79 (rr [mi 4 0,mv 5 false]))) (rr [mt 80 1,mt 81 6,ix 82 1 80 81,lf 83 1 82,mt 4 83,mv 5 true])))),[.t 4,.t 5]⟩
def zZ3:FnA:=⟨8,sr [mi 2 0] (seq (sr [mt 3 0,bi 4 .lss 3 0] (ci 4 (rr [mt 5 0,mt 2 5]))) (rr [mt 6 0,bin 7 .sub (1:Int) (t 6),mt 2 7])),[.t 2]⟩
def zW6:FnA:=⟨17,sr [mi 4 0] (seq (sr [mt 5 0,bi 6 .eql 5 0,mt 7 6,(gf 7,mt 8 1),(gf 7,bi 9 .eql 8 0),ou 10 7 9] (ci 10 (rr [mi 4 0]))) (seq (sr [mt 11 0,bi 12 .eql 11 1,mt 13 12,(gt 13,mt 14 1),(gt 13,bi 15 .eql 14 1),an 16 13 15] (ci 16 (rr [mi 4 1]))) (rr [mv 4 (-1:Int)]))),[.t 4]⟩
def zVN:FnA:=⟨60,sr [box 2 (t 0),alloc 4 zoe,mv 5 false] (sr [build 13 zoh [(1,1,.c (.d (.int .i64 1)))],alloc 6 zoh,su 2 6 13] (seq (sr [mt 14 1] (block 0 (sr [bq 16 .eql 14 (-1:Int),mt 15 16] (cn 15 (sr [lg 18 2 2,lg 19 2 6,kb 20 zyz 18 19,mt 17 20,eu 21 17 0,eu 22 17 1,alloc 7 zoh,su 2 7 21,mt 8 22] (rr [lg 23 2 7,build 24 zoe [(0,2,t 23)],ka 25 zxC 24,mt 26 8,su 3 4 25,mt 5 26])) (sr [bi 28 .eql 14 0,mt 27 28] (cn 27 (sr [lg 30 2 2,build 31 zoh [],kb 32 zyz 30 31,mt 29 32,eu 33 29 0,eu 34 29 1,alloc 9 zoh,su 2 9 33,mt 10 34] (rr [lg 35 2 9,build 36 zoe [(0,2,t 35),(2,1,.c (.d (.bool true)))],ka 37 zxC 36,mt 38 10,su 3 4 37,mt 5 38])) (sr [bi 40 .eql 14 1,mt 39 40] (ci 39 (sr [lg 42 2 2,kc 43 zyv [t 42,.c (.d (.int .i64 (-1)))],mt 41 43,eu 44 41 0,eu 45 41 1,alloc 11 zoh,su 2 11 44,mt 12 45] (seq (sr [mt 46 12,nu 47 46] (ci 47 (rr [build 48 zoe [],su 3 4 48,mv 5 false]))) (sr [lg 50 2 11,lg 51 2 6,kb 52 zyz 50 51,mt 49 52,eu 53 49 0,eu 54 49 1,su 2 11 53,mt 12 54] (rr [lg 55 2 11,build 56 zoe [(0,2,t 55)],ka 57 zxC 56,mt 58 12,su 3 4 57,mt 5 58])))))))))))) (rr [build 59 zoe [],su 3 4 59,mv 5 false]))),[.c 4 true 3,.t 5]⟩
def zkx:AC:=sr [bt 13 .lss 12 11] (seq (cn 13 skip (exit 0)) (seq (block 1 (sr [mt 14 12,ix 15 2 10 12,lg 16 2 15,alloc 4 zog,mt 3 14,su 2 4 16] (block 2 (sr [ft 18 0 4,lf 19 1 18,bq 20 .eql 19 (.c (.d (.str []))),mt 21 20,(gf 21,ft 22 0 4),(gf 21,lf 23 1 22),(gf 21,ls 24 23),(gf 21,bi 25 .gtr 24 400),ou 26 21 25,mt 17 26] (cn 17 (rr [mi 2 3]) (sr [ft 28 1 4,lf 29 1 28,bi 30 .eql 29 0,mt 31 30,(gf 31,ft 32 1 4),(gf 31,lf 33 1 32),(gf 31,.call (some 34) zkm [t 33]),(gf 31,nu 35 34),ou 36 31 35,mt 27 36] (cn 27 (rr [mi 2 2]) (seq (regd [mt 38 3,bi 39 .gtr 38 0,mt 40 39,(gt 40,ft 41 0 4),(gt 40,lf 42 1 41),(gt 40,ft 43 0 1),(gt 40,lf 44 1 43),(gt 40,mt 45 3),(gt 40,bi 46 .sub 45 1),(gt 40,ix 47 2 44 46),(gt 40,ft 48 0 47),(gt 40,lf 49 1 48),(gt 40,bt 50 .leq 42 49),an 51 40 50,mt 37 51]) (ci 37 (rr [mi 2 9])))))))))) (reg [bi 52 .add 12 1,mt 12 52])))
def zYw:FnA:=⟨57,sr [box 1 (t 0),mi 2 0] (seq (sr [ft 5 0 1,lf 6 1 5,ln 7 6,bi 8 .gtr 7 24] (ci 8 (rr [mi 2 7]))) (seq (sr [ft 9 0 1,lf 10 1 9,ln 11 10,mi 12 0] (block 0 (loop zkx))) (seq (sr [ft 53 1 1,lf 54 1 53,ka 55 zkm 54,nu 56 55] (ci 56 (rr [mi 2 2]))) (rr [mi 2 0])))),[.t 2]⟩
def zzR:AC:=sr [bt 9 .lss 8 7] (seq (cn 9 skip (exit 0)) (seq (block 1 (sr [mt 10 8,mt 5 10] (sr [mt 11 1,mt 12 0,mt 13 5,ix 14 2 12 13,lg 15 2 14,call (some 16) (t 11) [t 15]] (ci 16 (rr [mt 17 5,mt 4 17]))))) (reg [bi 18 .add 8 1,mt 8 18])))
def zyy:FnA:=⟨19,sr [mi 4 0] (seq (sr [mt 6 0,ln 7 6,mi 8 0] (block 0 (loop zzR))) (rr [mv 4 (-1:Int)])),[.t 4]⟩
def zqX:FnA:=⟨9,sr [box 2 (t 0),mv 3 false] (rr [ft 4 0 2,lf 5 1 4,ft 6 0 1,lf 7 1 6,bt 8 .eql 5 7,mt 3 8]),[.t 3]⟩
def yym:FnA:=⟨32,sr [mi 4 0,mv 5 false] (seq (sr [mt 6 0,ka 7 zkm 6,nu 8 7,mt 9 8,(gf 9,mt 10 1),(gf 9,.call (some 11) zkm [t 10]),(gf 9,nu 12 11),ou 13 9 12] (ci 13 (rr [mi 4 0,mv 5 false]))) (seq (sr [mt 14 0,bi 15 .eql 14 0,mt 16 15,(gf 16,mt 17 1),(gf 16,bi 18 .eql 17 0),ou 19 16 18] (ci 19 (rr [mi 4 0,mv 5 true]))) (seq (sr [mt 20 1,ka 21 zZH 20,mt 22 0,ka 23 zZH 22,bin 24 .quo (1000000000000:Int) (t 23),bt 25 .gtr 21 24] (ci 25 (rr [mi 4 0,mv 5 false]))) (rr [mt 26 0,mt 27 1,bt 28 .mul 26 27,kc 29 zwa [t 28,.c (.d (.bool true))],eu 30 29 0,eu 31 29 1,mt 4 30,mt 5 31])))),[.t 4,.t 5]⟩
def yyj:FnA:=⟨20,sr [mi 4 0,mv 5 false] (seq (sr [mt 6 0,ka 7 zkm 6,nu 8 7,mt 9 8,(gf 9,mt 10 1),(gf 9,.call (some 11) zkm [t 10]),(gf 9,nu 12 11),ou 13 9 12] (ci 13 (rr [mi 4 0,mv 5 false]))) (rr [mt 14 0,mt 15 1,bt 16 .add 14 15,kc 17 zwa [t 16,.c (.d (.bool true))],eu 18 17 0,eu 19 17 1,mt 4 18,mt 5 19])),[.t 4,.t 5]⟩
def zkX:AC:=sr [bt 9 .lss 8 7] (seq (cn 9 skip (exit 0)) (seq (block 1 (sr [ix 10 1 6 8,lf 11 1 10,mt 5 11] (reg [mt 12 3,mt 13 5,ka 14 strconv_Itoa 13,bq 15 .add 14 (.c (.d (.str [44]))),bt 16 .add 12 15,mt 3 16]))) (reg [bi 17 .add 8 1,mt 8 17])))
def zXR:FnA:=⟨19,sr [mv 2 (.c (.d (.str [])))] (sr [mv 3 (.c (.d (.str [])))] (seq (sr [mt 6 0,ln 7 6,mi 8 0] (block 0 (loop zkX))) (rr [mt 18 3,mt 2 18]))),[.t 2]⟩
def zYB:FnA:=⟨24,sr [box 3 (t 0),mi 6 0,mv 7 false] (seq (sr [lg 10 4 3,ka 11 zws 10,bi 12 .neq 11 0] (ci 12 (rr [mi 6 0,mv 7 false]))) (sr [mt 14 1,mt 15 2,build 16 [.full [],.full []] [(0,1,t 14),(1,1,t 15)],lg 17 4 3,kb 18 zzK 16 17,mt 13 18,eu 19 13 0,eu 20 13 1,mt 8 19,mt 9 20] (seq (sr [mt 21 9,nu 22 21] (ci 22 (rr [mi 6 0,mv 7 false]))) (rr [mt 23 8,mt 6 23,mv 7 true])))),[.t 6,.t 7]⟩
def zYD:AC:=reg [alloc 4 zoc,su 4 4 7]
def zYE:AC:=block 1 (sr [ft 8 0 4,lf 9 1 8,bi 10 .eql 9 3] (ci 10 (reg [lf 11 1 3,ft 12 1 4,lf 13 1 12,bsl 14 1 [t 13],ap 15 1 16 11 14,su 1 3 15])))
def zVU:FnA:=⟨18,sr [box 1 (t 0),mv 2 (.c (.full []))] (sr [alloc 3 [.full []]] (seq (sr [lg 5 4 1,ka 6 zkb 5] (block 0 (.rng (t 6) [7] [7,4,8,9,10,11,12,13,14,15] zYD zYE))) (rr [lf 16 1 3,kc 17 yzc [t 16,.c (.full [])],mt 2 17]))),[.t 2]⟩
def zqq:AC:=sr [bt 11 .lss 10 9] (seq (cn 11 skip (exit 0)) (seq (block 1 (sr [ix 12 2 8 10,lg 13 2 12,alloc 7 zog,su 2 7 13] (sr [ft 14 0 7,lf 15 1 14,mt 16 1,bt 17 .eql 15 16] (ci 17 (rr [ft 18 1 7,lf 19 1 18,mt 4 19,mv 5 true]))))) (reg [bi 20 .add 10 1,mt 10 20])))
def zQE:FnA:=⟨21,sr [mi 4 0,mv 5 false] (seq (sr [mt 8 0,ln 9 8,mi 10 0] (block 0 (loop zqq))) (rr [mi 4 0,mv 5 false])),[.t 4,.t 5]⟩
def zvS:AC:=sr [bt 13 .lss 12 11] (seq (cn 13 skip (exit 0)) (seq (block 1 (sr [ix 14 4 10 12,lg 15 4 14,alloc 8 zoc,su 4 8 15] (reg [lg 16 4 8,mt 17 1,mt 18 2,kc 19 zkn [t 16,t 17,t 18],mt 2 19]))) (reg [bi 20 .add 12 1,mt 12 20])))
def zZx:FnA:=⟨37,sr [box 3 (t 0),mv 6 (.c (.full []))] (seq (sr [ft 9 3 3,lf 10 1 9,ln 11 10,mi 12 0] (block 0 (loop zvS))) (seq (sr [ft 21 0 3,lf 22 1 21,mt 23 1,bt 24 .eql 22 23,mt 25 24,(gt 25,mt 26 2),(gt 25,lg 27 4 3),(gt 25,.call (some 28) zyO [t 26,t 27,.c (.d (.clo zyc []))]),(gt 25,nu 29 28),an 30 25 29] (ci 30 (reg [mt 31 2,lg 32 4 3,ka 33 zxM 32,bsl 34 4 [t 33],ap 35 4 56 31 34,mt 2 35]))) (rr [mt 36 2,mt 6 36]))),[.t 6]⟩
def zxz:FnA:=⟨4,sr [mv 2 (.c (.d (.str [])))] (seq (sr [mt 3 0] (ci 3 (rr [mv 2 (.c (.d (.str [116,114,117,101])))]))) (rr [mv 2 (.c (.d (.str [102,97,108,115,101])))])),[.t 2]⟩
def zzv:AC:=sr [bt 18 .lss 17 16] (seq (cn 18 skip (exit 0)) (seq (block 1 (sr [mt 19 17,ix 20 4 15 17,lg 21 4 20,alloc 8 zoc,mt 7 19,su 4 8 21] (sr [mt 22 1,mt 23 7,ix 24 4 22 23,lg 25 4 24,alloc 9 zoc,su 4 9 25] (sr [mt 26 2,lg 27 4 8,lg 28 4 9,call (some 29) (t 26) [t 27,t 28],nu 30 29] (ci 30 (rr [mv 6 false])))))) (reg [bi 31 .add 17 1,mt 17 31])))
def zzM:FnA:=⟨32,sr [mv 6 false] (seq (sr [mt 10 0,ln 11 10,mt 12 1,ln 13 12,bt 14 .neq 11 13] (ci 14 (rr [mv 6 false]))) (seq (sr [mt 15 0,ln 16 15,mi 17 0] (block 0 (loop zzv))) (rr [mv 6 true]))),[.t 6]⟩
def zZ2:FnA:=⟨25,sr [box 3 (t 0),box 4 (t 1),mv 5 false] (sr [lg 11 3 2,lg 12 4 3,kb 13 zzF 11 12,mt 10 13,eu 14 10 0,eu 15 10 1,mt 6 14,mt 7 15] (sr [lg 17 3 2,lg 18 4 4,kb 19 zzF 17 18,mt 16 19,eu 20 16 0,eu 21 16 1,mt 8 20,mt 9 21] (rr [mt 22 6,mt 23 8,bt 24 .eql 22 23,mt 5 24]))),[.t 5]⟩
def zYc:FnA:=⟨6,sr [alloc 2 zoc] (seq (sr [mt 3 0] (ci 3 (rr [build 4 zoc [(0,1,.c (.d (.int .i64 2))),(2,1,.c (.d (.int .i64 1)))],su 4 2 4]))) (rr [build 5 zoc [(0,1,.c (.d (.int .i64 2)))],su 4 2 5])),[.c 2 true 4]⟩
def zVY:FnA:=⟨11,sr [box 1 (t 0),mv 2 false] (seq (regd [lg 3 4 1,build 4 zoc [],kb 5 zyc 3 4,mt 6 5,(gf 6,lg 7 4 1),(gf 6,.call (some 8) zyL [.c (.d (.bool true))]),(gf 6,.call (some 9) zyc [t 7,t 8]),ou 10 6 9,mt 2 10]) ret),[.t 2]⟩
def zkY:AC:=sr [bt 17 .lss 16 15] (seq (cn 17 skip (exit 0)) (seq (block 1 (sr [ix 18 4 14 16,lg 19 4 18,alloc 5 zoc,su 4 5 19] (regd [ft 20 3 3,lf 21 1 20,lg 22 4 5,ka 23 zxM 22,bsl 24 4 [t 23],ap 25 4 56 21 24,ft 26 3 3,su 1 26 25]))) (reg [bi 27 .add 16 1,mt 16 27])))
def zXY:FnA:=⟨29,sr [box 1 (t 0),alloc 2 zoc] (sr [ft 6 0 1,lf 7 1 6,ft 8 1 1,lf 9 1 8,ft 10 2 1,lf 11 1 10,build 12 zoc [(0,1,t 7),(1,1,t 9),(2,1,t 11)],alloc 3 zoc,su 4 3 12] (seq (sr [ft 13 3 1,lf 14 1 13,ln 15 14,mi 16 0] (block 0 (loop zkY))) (rr [lg 28 4 3,su 4 2 28]))),[.c 2 true 4]⟩
def zqx:AC:=seq (sr [mt 11 6,bi 12 .geq 11 0] (cn 12 skip (exit 0))) (seq (block 1 (sr [ft 15 0 2,lf 16 1 15,mt 17 6,ix 18 2 16 17,ft 19 0 18,lf 20 1 19,mt 21 1,bt 22 .eql 20 21] (ci 22 (rr [ft 23 0 2,lf 24 1 23,mt 25 6,ix 26 2 24 25,ft 27 1 26,lf 28 1 27,mt 4 28,mv 5 true])))) (reg [mt 13 6,bi 14 .sub 13 1,mt 6 14]))
def zQM:FnA:=⟨29,sr [box 2 (t 0),mv 4 (.c (.d (.str []))),mv 5 false] (seq (sr [ft 7 0 2,lf 8 1 7,ln 9 8,bi 10 .sub 9 1,mt 6 10] (block 0 (loop zqx))) (rr [mv 4 (.c (.d (.str []))),mv 5 false])),[.t 4,.t 5]⟩
def zx4:AC:=sr [bt 40 .lss 39 38] (seq (cn 40 skip (exit 0)) (seq (block 1 (sr [mt 41 39,ix 42 1 37 39,lf 43 1 42,mt 10 41,mt 11 43] (sr [mt 44 11,ft 45 1 8,lf 46 1 45,mt 47 10,ix 48 1 46 47,lf 49 1 48,bt 50 .neq 44 49] (ci 50 (rr [mv 6 (.c (.d (.str []))),mi 7 11]))))) (reg [bi 51 .add 39 1,mt 39 51])))
def zj3:FnA:=⟨54,sr [box 3 (t 0),mv 6 (.c (.d (.str []))),mi 7 0] (sr [lg 13 3 3,mt 14 1,kb 15 zZl 13 14,mt 12 15,eu 16 12 0,eu 17 12 1,alloc 8 zod,su 3 8 16,mt 9 17] (seq (sr [mt 18 9,nu 19 18] (ci 19 (rr [mv 6 (.c (.d (.str []))),mi 7 5]))) (seq (sr [mt 20 1,bq 21 .eql 20 (.c (.d (.str [116,97,103])))] (ci 21 (seq (sr [mt 22 2,ln 23 22,bi 24 .neq 23 1] (ci 24 (rr [mv 6 (.c (.d (.str []))),mi 7 13]))) (seq (sr [mt 25 2,idx 26 1 (t 25) (0:Int),lf 27 1 26,ka 28 zwx 27] (ci 28 (rr [mv 6 (.c (.d (.str []))),mi 7 11]))) (rr [ft 29 2 8,lf 30 1 29,mt 6 30,mi 7 0]))))) (seq (sr [mt 31 2,ln 32 31,ft 33 1 8,lf 34 1 33,ln 35 34,bt 36 .neq 32 35] (ci 36 (rr [mv 6 (.c (.d (.str []))),mi 7 13]))) (seq (sr [mt 37 2,ln 38 37,mi 39 0] (block 0 (loop zx4))) (rr [ft 52 2 8,lf 53 1 52,mt 6 53,mi 7 0])))))),[.t 6,.t 7]⟩
def zwE:AC:=sr [bt 29 .lss 28 27] (seq (cn 29 skip (exit 0)) (seq (block 1 (sr [mt 30 28,ix 31 1 26 28,lf 32 1 31,mt 10 30,mt 11 32] (sr [mt 33 11,ft 34 1 8,lf 35 1 34,mt 36 10,ix 37 2 35 36,ft 38 1 37,lf 39 1 38,bt 40 .neq 33 39] (ci 40 (rr [mv 6 (.c (.d (.str []))),mi 7 11]))))) (reg [bi 41 .add 28 1,mt 28 41])))
def zq0:FnA:=⟨42,sr [box 3 (t 0),mv 6 (.c (.d (.str []))),mi 7 0] (sr [lg 13 3 3,mt 14 1,kb 15 zZm 13 14,mt 12 15,eu 16 12 0,eu 17 12 1,alloc 8 [.d (.str []),.full []],su 2 8 16,mt 9 17] (seq (sr [mt 18 9,nu 19 18] (ci 19 (rr [mv 6 (.c (.d (.str []))),mi 7 5]))) (seq (sr [mt 20 2,ln 21 20,ft 22 1 8,lf 23 1 22,ln 24 23,bt 25 .neq 21 24] (ci 25 (rr [mv 6 (.c (.d (.str []))),mi 7 13]))) (seq (sr [mt 26 2,ln 27 26,mi 28 0] (block 0 (loop zwE))) (rr [mv 6 (.c (.d (.str [66,111,111,108]))),mi 7 0]))))),[.t 6,.t 7]⟩
def zq1:FnA:=⟨22,sr [alloc 2 zof] (seq (sr [mt 3 0] (block 0 (seq (sr [bi 5 .eql 3 6,mt 4 5] (cn 4 skip (sr [bi 6 .eql 3 7,mt 4 6] (cn 4 skip (sr [bi 7 .eql 3 8,mt 4 7] (cn 4 skip (reg [bi 8 .eql 3 9,mt 4 8]))))))) (cn 4 (rr [kc 9 zwj [.c (.d (.str [73,110,116]))],build 10 zof [(0,1,t 9),(1,1,.c (.d (.str [73,110,116])))],su 2 2 10]) (seq (sr [bi 12 .eql 3 12,mt 11 12] (cn 11 skip (reg [bi 13 .eql 3 13,mt 11 13]))) (cn 11 (rr [kc 14 zwj [.c (.d (.str [73,110,116]))],build 15 zof [(0,1,t 14),(1,1,.c (.d (.str [66,111,111,108])))],su 2 2 15]) (seq (sr [bi 17 .eql 3 10,mt 16 17] (cn 16 skip (reg [bi 18 .eql 3 11,mt 16 18]))) (ci 16 (rr [build 19 zof [(0,1,.c (.d (.clo zyF []))),(1,1,.c (.d (.str [66,111,111,108])))],su 2 2 19]))))))))) (rr [kc 20 zwj [.c (.d (.str [66,111,111,108]))],build 21 zof [(0,1,t 20),(1,1,.c (.d (.str [66,111,111,108])))],su 2 2 21])),[.c 2 true 2]⟩
def zwY:FnA:=⟨6,reg [lg 3 4 1,mt 4 0,kb 5 zwt 3 4],[]⟩
def zvT:AC:=sr [bt 15 .lss 14 13] (seq (cn 15 skip (exit 0)) (seq (block 1 (sr [ix 16 4 12 14,lg 17 4 16,alloc 6 zoc,su 4 6 17] (sr [lg 18 4 6,mt 19 1,kb 20 zwt 18 19,nu 21 20] (ci 21 (rr [mv 4 false]))))) (reg [bi 22 .add 14 1,mt 14 22])))
def zv1:FnA:=⟨23,sr [box 2 (t 0),mv 4 false] (seq (sr [mt 7 1,lg 8 4 2,call (some 9) (t 7) [t 8],nu 10 9] (ci 10 (rr [mv 4 false]))) (seq (sr [ft 11 3 2,lf 12 1 11,ln 13 12,mi 14 0] (block 0 (loop zvT))) (rr [mv 4 true]))),[.t 4]⟩
def zVW:FnA:=⟨15,sr [mi 2 0,mi 3 0] (seq (sr [mt 4 0] (block 0 (seq (sr [bi 6 .eql 4 1,mt 5 6] (cn 5 skip (sr [bi 7 .eql 4 2,mt 5 7] (cn 5 skip (reg [bi 8 .eql 4 3,mt 5 8]))))) (cn 5 (rr [mi 2 0,mi 3 0]) (seq (sr [bi 10 .eql 4 4,mt 9 10] (cn 9 skip (reg [bi 11 .eql 4 5,mt 9 11]))) (cn 9 (rr [mi 2 1,mi 3 24]) (seq (sr [bi 13 .eql 4 9,mt 12 13] (cn 12 skip (reg [bi 14 .eql 4 14,mt 12 14]))) (ci 12 (rr [mi 2 1,mi 3 1]))))))))) (rr [mi 2 2,mi 3 2])),[.t 2,.t 3]⟩
def zKh:FnA:=⟨13,sr [mv 2 false] (rr [mt 3 0,bi 4 .eql 3 3,mt 5 4,(gf 5,mt 6 0),(gf 5,bi 7 .eql 6 4),ou 8 5 7,mt 9 8,(gf 9,mt 10 0),(gf 9,bi 11 .eql 10 5),ou 12 9 11,mt 2 12]),[.t 2]⟩
def yw4:FnA:=⟨9,sr [mv 2 false] (rr [mt 3 0,bq 4 .geq 3 (-1000000000000:Int),mt 5 4,(gt 5,mt 6 0),(gt 5,bi 7 .leq 6 1000000000000),an 8 5 7,mt 2 8]),[.t 2]⟩
def zvN:AC:=seq (sr [mt 32 5] (cn 32 skip (exit 0))) (block 1 (sr [mv 6 (.c (.d (.str [])))] (sr [mt 34 4,ka 35 zjF 34,mt 33 35,eu 36 33 0,eu 37 33 1,eu 38 33 2,mt 6 36,mt 4 37,mt 5 38] (sr [mt 39 6,ka 40 zx9 39,nu 41 40,mt 42 41,(gf 42,mt 43 6),(gf 42,.call (some 44) zyf [t 43]),(gf 42,nu 45 44),(gf 42,mt 46 45),(gt 46,mt 47 6),(gt 46,.call (some 48) zjg [t 47]),(gt 46,nu 49 48),(gf 42,an 50 46 49),ou 51 42 50] (ci 51 (rr [mi 2 3]))))))
def zW9:FnA:=⟨52,sr [mi 2 0] (seq (sr [mt 7 0,ls 8 7,bi 9 .gtr 8 120] (ci 9 (rr [mi 2 3]))) (sr [mt 11 0,ka 12 zjF 11,mt 10 12,eu 13 10 0,eu 14 10 1,eu 15 10 2,mt 3 13,mt 4 14,mt 5 15] (seq (sr [mt 16 3,ka 17 zjf 16,nu 18 17,mt 19 18,(gt 19,mt 20 3),(gt 19,.call (some 21) zk9 [t 20]),(gt 19,nu 22 21),an 23 19 22,mt 24 23,(gt 24,mt 25 3),(gt 24,bq 26 .neq 25 (.c (.d (.str [118])))),(gt 24,mt 27 26),(gf 27,mt 28 5),(gf 27,nu 29 28),(gt 24,ou 30 27 29),an 31 24 30] (ci 31 (rr [mi 2 3]))) (seq (block 0 (loop zvN)) (rr [mi 2 0]))))),[.t 2]⟩
def zxd:AC:=sr [bt 16 .lss 15 14] (seq (cn 16 skip (exit 0)) (seq (block 1 (sr [mt 17 15,mt 7 17] (seq (regd [mt 18 2,mt 19 0,mt 20 7,ix 21 4 19 20,lg 22 4 21,mt 23 1,mt 24 7,ix 25 4 23 24,lg 26 4 25,call (some 27) (t 18) [t 22,t 26],nu 28 27]) (ci 28 (rr [mv 6 false]))))) (reg [bi 29 .add 15 1,mt 15 29])))
def zkR:FnA:=⟨30,sr [mv 6 false] (seq (sr [mt 8 0,ln 9 8,mt 10 1,ln 11 10,bt 12 .neq 9 11] (ci 12 (rr [mv 6 false]))) (seq (sr [mt 13 0,ln 14 13,mi 15 0] (block 0 (loop zxd))) (rr [mv 6 true]))),[.t 6]⟩
def zwL:FnA:=⟨38,sr [alloc 4 zoc] (seq (sr [mt 5 0,nck 6 (t 5),ft 7 6 6,lf 8 1 7,mt 9 1,mget 10 false zzN zyY (.str []) (MV.one (.bool false)) (t 8) (t 9),nu 11 10] (ci 11 (sr [mt 12 0,nck 13 (t 12),ft 14 6 13,lf 15 1 14,mt 16 1,mput zzN zyY (.str []) (t 15) (t 16) true] (reg [mt 17 0,mt 18 0,nck 19 (t 18),ft 20 5 19,lf 21 1 20,mt 22 1,bsl 23 1 [t 22],ap 24 1 16 21 23,nck 25 (t 17),ft 26 5 25,su 1 26 24])))) (rr [mt 27 0,mt 28 0,mt 29 0,mt 30 1,kd 31 zzo [t 29,t 30],build 32 zoh [(1,1,.c (.d (.int .i64 (-1))))],kb 33 zyz 31 32,eu 34 33 0,eu 35 33 1,kd 36 zzj [t 28,t 34,t 35],kd 37 zzI [t 27,t 36],su 4 4 37])),[.c 4 true 4]⟩
def zyQ:FnA:=⟨96,sr [box 3 (t 1),alloc 4 zoc] (seq (seq (regd [mt 13 0,nck 14 (t 13),ft 15 0 14,lg 16 3 15,ft 17 3 3,lf 18 1 17,idx 19 4 (t 18) (0:Int),lg 20 4 19,kb 21 zzF 16 20,mt 12 21,eu 22 12 0,eu 23 12 1,mt 5 22,mt 6 23]) (sr [mt 24 5,bq 25 .eql 24 (.c (.d (.str [66,111,111,108])))] (ci 25 (sr [mt 26 0,ft 27 3 3,lf 28 1 27,idx 29 4 (t 28) (0:Int),lg 30 4 29,kd 31 zzq [t 26,t 30],alloc 7 zoc,su 4 7 31] (seq (.scope (seq (.regk [32] [lg 32 4 7,mt 33 0,ft 34 3 3,lf 35 1 34,idx 36 4 (t 35) (1:Int),lg 37 4 36,kd 38 zzq [t 33,t 37],kc 39 zwn [.c (.d (.int .i64 18)),t 32,t 38],alloc 8 zoc,su 4 8 39]) skip)) (seq (sr [ft 40 0 3,lf 41 1 40,bi 42 .eql 41 11] (ci 42 (rr [lg 43 4 8,ka 44 zwH 43,su 4 4 44]))) (rr [lg 45 4 8,su 4 4 45]))))))) (sr [mt 46 0,ft 47 3 3,lf 48 1 47,idx 49 4 (t 48) (0:Int),lg 50 4 49,kd 51 zzr [t 46,t 50],alloc 9 zoh,su 2 9 51] (sr [mt 52 0,ft 53 3 3,lf 54 1 53,idx 55 4 (t 54) (1:Int),lg 56 4 55,kd 57 zzr [t 52,t 56],alloc 10 zoh,su 2 10 57] (seq (.scope (seq (.regk [59] [mt 58 0,lg 59 2 9,mt 60 0,lg 61 2 10,kc 62 zyv [t 61,.c (.d (.int .i64 (-1)))],eu 63 62 0,eu 64 62 1,kd 65 zzj [t 60,t 63,t 64],kb 66 zyz 59 65,eu 67 66 0,eu 68 66 1,kd 69 zzj [t 58,t 67,t 68],alloc 11 zoh,su 2 11 69]) skip)) (seq (sr [mt 70 0,nck 71 (t 70),ft 72 7 71,lf 73 1 72] (ci 73 (rr [kc 74 zxF [.c (.d (.bool false))],su 4 4 74]))) (seq (sr [ft 75 0 3,lf 76 1 75] (block 0 (sr [bi 78 .eql 76 10,mt 77 78] (cn 77 (rr [mt 79 0,lg 80 2 11,kd 81 zzI [t 79,t 80],su 4 4 81]) (sr [bi 83 .eql 76 11,mt 82 83] (cn 82 (rr [mt 84 0,lg 85 2 11,kd 86 zzI [t 84,t 85],ka 87 zwH 86,su 4 4 87]) (sr [bi 89 .eql 76 13,mt 88 89] (ci 88 (rr [mt 90 0,lg 91 2 11,kd 92 zzx [t 90,t 91],su 4 4 92]))))))))) (rr [mt 93 0,lg 94 2 11,kd 95 zz4 [t 93,t 94],su 4 4 95]))))))),[.c 4 true 4]⟩
def zyI:FnA:=⟨15,sr [alloc 4 zoh] (rr [mt 5 0,mt 6 1,build 7 zog [(0,1,t 6),(1,1,.c (.d (.int .i64 1)))],bsl 8 2 [t 7],build 9 zoh [(0,1,t 8)],build 10 zoh [],kb 11 zyz 9 10,eu 12 11 0,eu 13 11 1,kd 14 zzj [t 5,t 12,t 13],su 2 4 14]),[.c 4 true 2]⟩
def zxm:FnA:=⟨29,sr [box 3 (t 1),alloc 4 zoc] (seq (sr [ft 8 0 3,lf 9 1 8,ln 10 9,bi 11 .eql 10 0] (ci 11 (rr [ft 12 1 3,lf 13 1 12,bi 14 .leq 13 0,ka 15 zxF 14,su 4 4 15]))) (sr [mt 17 0,lg 18 2 3,kd 19 zzB [t 17,t 18],mt 16 19,eu 20 16 0,eu 21 16 1,eu 22 16 2,alloc 5 zoc,alloc 6 zoc,su 4 5 20,su 4 6 21,mt 7 22] (seq (sr [mt 23 7] (ci 23 (seq (regd [lg 24 4 6,ka 25 zwH 24,lg 26 4 5,kc 27 zwn [.c (.d (.int .i64 16)),t 25,t 26],su 4 4 27]) ret))) (rr [lg 28 4 6,su 4 4 28])))),[.c 4 true 4]⟩
def zya:FnA:=⟨13,sr [box 4 (t 1),alloc 6 zoh] (seq (sr [mt 7 2,nu 8 7] (ci 8 (reg [mt 9 0,nck 10 (t 9),ft 11 7 10,st 1 (t 11) true]))) (rr [lg 12 2 4,su 2 6 12])),[.c 6 true 2]⟩
def zyi:AC:=seq (sr [mt 25 7,ft 26 0 2,lf 27 1 26,ln 28 27,bt 29 .lss 25 28,mt 30 29,(gf 30,mt 31 8),(gf 30,ft 32 0 3),(gf 30,lf 33 1 32),(gf 30,ln 34 33),(gf 30,bt 35 .lss 31 34),ou 36 30 35] (cn 36 skip (exit 0))) (block 1 (block 2 (seq (regd [mt 70 8,ft 71 0 3,lf 72 1 71,ln 73 72,bt 74 .eql 70 73,mt 75 74,(gf 75,mt 76 7),(gf 75,ft 77 0 2),(gf 75,lf 78 1 77),(gf 75,ln 79 78),(gf 75,bt 80 .lss 76 79),(gf 75,mt 81 80),(gt 81,ft 82 0 2),(gt 81,lf 83 1 82),(gt 81,mt 84 7),(gt 81,ix 85 2 83 84),(gt 81,ft 86 0 85),(gt 81,lf 87 1 86),(gt 81,ft 88 0 3),(gt 81,lf 89 1 88),(gt 81,mt 90 8),(gt 81,ix 91 2 89 90),(gt 81,ft 92 0 91),(gt 81,lf 93 1 92),(gt 81,bt 94 .lss 87 93),(gf 75,an 95 81 94),ou 96 75 95,mt 69 96]) (cn 69 (seq (regd [ft 97 0 6,lf 98 1 97,ft 99 0 2,lf 100 1 99,mt 101 7,ix 102 2 100 101,lg 103 2 102,bsl 104 2 [t 103],ap 105 2 24 98 104,ft 106 0 6,su 1 106 105]) (reg [mt 107 7,bi 108 .add 107 1,mt 7 108])) (seq (regd [mt 110 7,ft 111 0 2,lf 112 1 111,ln 113 112,bt 114 .eql 110 113,mt 115 114,(gf 115,ft 116 0 3),(gf 115,lf 117 1 116),(gf 115,mt 118 8),(gf 115,ix 119 2 117 118),(gf 115,ft 120 0 119),(gf 115,lf 121 1 120),(gf 115,ft 122 0 2),(gf 115,lf 123 1 122),(gf 115,mt 124 7),(gf 115,ix 125 2 123 124),(gf 115,ft 126 0 125),(gf 115,lf 127 1 126),(gf 115,bt 128 .lss 121 127),ou 129 115 128,mt 109 129]) (cn 109 (seq (regd [ft 130 0 6,lf 131 1 130,ft 132 0 3,lf 133 1 132,mt 134 8,ix 135 2 133 134,lg 136 2 135,bsl 137 2 [t 136],ap 138 2 24 131 137,ft 139 0 6,su 1 139 138]) (reg [mt 140 8,bi 141 .add 140 1,mt 8 141])) (seq (seq (regd [ft 37 0 2,lf 38 1 37,mt 39 7,ix 40 2 38 39,ft 41 1 40,lf 42 1 41,ft 43 0 3,lf 44 1 43,mt 45 8,ix 46 2 44 45,ft 47 1 46,lf 48 1 47,bt 49 .add 42 48,mt 9 49]) (sr [mt 50 9,bi 51 .neq 50 0] (ci 51 (regd [ft 52 0 6,lf 53 1 52,ft 54 0 2,lf 55 1 54,mt 56 7,ix 57 2 55 56,ft 58 0 57,lf 59 1 58,mt 60 9,build 61 zog [(0,1,t 59),(1,1,t 60)],bsl 62 2 [t 61],ap 63 2 24 53 62,ft 64 0 6,su 1 64 63])))) (sr [mt 65 7,bi 66 .add 65 1,mt 7 66] (reg [mt 67 8,bi 68 .add 67 1,mt 8 68])))))))))
def zW8:FnA:=⟨146,sr [box 2 (t 0),box 3 (t 1),alloc 4 zoh,mv 5 false] (seq (sr [lg 10 2 2,ka 11 zyj 10,bi 12 .neq 11 0,mt 13 12,(gf 13,lg 14 2 3),(gf 13,.call (some 15) zyj [t 14]),(gf 13,bi 16 .neq 15 0),ou 17 13 16] (ci 17 (rr [build 18 zoh [],su 2 4 18,mv 5 false]))) (sr [ft 19 1 2,lf 20 1 19,ft 21 1 3,lf 22 1 21,bt 23 .add 20 22,build 24 zoh [(1,1,t 23)],alloc 6 zoh,su 2 6 24] (sr [mi 7 0,mi 8 0] (seq (block 0 (loop zyi)) (rr [lg 142 2 6,ka 143 zkk 142,eu 144 143 0,eu 145 143 1,su 2 4 144,mt 5 145]))))),[.c 4 true 2,.t 5]⟩
def zYx:FnA:=⟨54,sr [box 2 (t 0),box 3 (t 1),alloc 4 zoh,mv 5 false] (seq (sr [lg 10 2 2,ka 11 zyj 10,bi 12 .neq 11 0] (ci 12 (rr [build 13 zoh [],su 2 4 13,mv 5 false]))) (seq (sr [lf 14 1 3,bi 15 .eql 14 0] (ci 15 (rr [build 16 zoh [],su 2 4 16,mv 5 true]))) (seq (sr [lf 17 1 3,ka 18 zkm 17,nu 19 18] (ci 19 (seq (.regd2 [build 20 zoh [],ft 21 0 2,lf 22 1 21,ln 23 22,bi 24 .eql 23 0,mt 25 24,(gt 25,ft 26 1 2)] (gt 25,lf 27 1 26) (su 2 4 20) [(gt 25,bi 28 .eql 27 0),an 29 25 28,mt 5 29]) ret))) (sr [ft 31 1 2,lf 32 1 31,lf 33 1 3,kb 34 zqD 32 33,mt 30 34,eu 35 30 0,eu 36 30 1,mt 6 35,mt 7 36] (sr [ft 38 0 2,lf 39 1 38,mkf 40 zxf [t 3],kb 41 zz2 39 40,mt 37 41,eu 42 37 0,eu 43 37 1,mt 8 42,mt 9 43] (seq (sr [mt 44 7,nu 45 44,mt 46 45,(gf 46,mt 47 9),(gf 46,nu 48 47),ou 49 46 48] (ci 49 (rr [build 50 zoh [],su 2 4 50,mv 5 false]))) (rr [mt 51 8,mt 52 6,build 53 zoh [(0,1,t 51),(1,1,t 52)],su 2 4 53,mv 5 true]))))))),[.c 4 true 2,.t 5]⟩
def zYy:FnA:=⟨65,sr [box 1 (t 0),alloc 2 zoe] (sr [ft 7 0 1,lg 8 2 7,alloc 3 zoh,su 2 3 8] (seq (sr [lg 9 2 3,ka 10 zyj 9,bi 11 .neq 10 0] (ci 11 (seq (regd [lg 12 2 3,ka 13 yxX 12,ft 14 2 1,lf 15 1 14,build 16 zoe [(0,2,t 13),(2,1,t 15)],su 3 2 16]) ret))) (seq (sr [ft 17 0 3,lf 18 1 17,ln 19 18,bi 20 .eql 19 0] (ci 20 (rr [ft 21 1 3,lf 22 1 21,bi 23 .eql 22 0,mt 24 23,(gf 24,ft 25 2 1),(gf 24,lf 26 1 25),(gf 24,nu 27 26),(gf 24,mt 28 27),(gt 28,ft 29 1 3),(gt 28,lf 30 1 29),(gt 28,bi 31 .lss 30 0),(gf 24,an 32 28 31),ou 33 24 32,ka 34 zxh 33,su 3 2 34]))) (sr [lg 35 2 3,kc 36 zxg [t 35,.c (.d (.int .i64 0))],mt 4 36] (seq (sr [ft 37 2 1,lf 38 1 37,mt 39 38,(gt 39,ft 40 1 3),(gt 39,lf 41 1 40),(gt 39,mt 42 4),(gt 39,bt 43 .rem 41 42),(gt 39,bi 44 .neq 43 0),an 45 39 44] (ci 45 (rr [kc 46 zxh [.c (.d (.bool false))],su 3 2 46]))) (sr [ft 48 1 3,lf 49 1 48,bin 50 .sub (0:Int) (t 49),mt 51 4,kb 52 zVl 50 51,mt 47 52,eu 53 47 0,eu 54 47 1,mt 5 53,mt 6 54] (seq (regd [ft 55 0 3,lf 56 1 55,mt 57 4,kb 58 zyr 56 57,mt 59 5,bin 60 .sub (0:Int) (t 59),build 61 zoh [(0,1,t 58),(1,1,t 60)],ft 62 2 1,lf 63 1 62,build 64 zoe [(0,2,t 61),(2,1,t 63)],su 3 2 64]) ret))))))),[.c 2 true 3]⟩
def yyo:FnA:=⟨11,sr [mi 2 0] (seq (sr [mt 3 0,bi 4 .geq 3 0] (ci 4 (rr [mt 5 0,mt 2 5]))) (seq (sr [mt 6 0,bin 7 .sub (0:Int) (t 6),bi 8 .lss 7 0] (ci 8 (rr [mi 2 1000000000000]))) (rr [mt 9 0,bin 10 .sub (0:Int) (t 9),mt 2 10]))),[.t 2]⟩
def zXW:FnA:=⟨14,sr [mi 4 0,mv 5 false] (seq (sr [mt 6 1,nu 7 6,mt 8 7,(gf 8,mt 9 0),(gf 8,.call (some 10) zkm [t 9]),(gf 8,nu 11 10),ou 12 8 11] (ci 12 (rr [mi 4 0,mv 5 false]))) (rr [mt 13 0,mt 4 13,mv 5 true])),[.t 4,.t 5]⟩
def zyE:AC:=sr [bt 17 .lss 16 15] (seq (cn 17 skip (exit 0)) (seq (block 1 (sr [ix 18 4 14 16,lg 19 4 18,alloc 8 zoc,su 4 8 19] (sr [lg 21 2 2,lg 22 4 8,kb 23 zzK 21 22,mt 20 23,eu 24 20 0,eu 25 20 1,mt 9 24,mt 10 25] (seq (sr [mt 26 10,nu 27 26] (ci 27 (rr [mi 4 0,mv 5 false]))) (reg [mt 28 6,mt 29 9,bsl 30 1 [t 29],ap 31 1 8 28 30,mt 6 31]))))) (reg [bi 32 .add 16 1,mt 16 32])))
def zwz:FnA:=⟨93,sr [box 2 (t 0),box 3 (t 1),mi 4 0,mv 5 false] (sr [mv 6 (.c (.full []))] (seq (sr [ft 13 3 3,lf 14 1 13,ln 15 14,mi 16 0] (block 0 (loop zyE))) (seq (sr [ft 33 0 3,lf 34 1 33] (block 2 (seq (sr [bi 36 .eql 34 1,mt 35 36] (cn 35 skip (reg [bi 37 .eql 34 2,mt 35 37]))) (cn 35 (rr [ft 38 2 3,lf 39 1 38,mt 4 39,mv 5 true]) (sr [bi 41 .eql 34 3,mt 40 41] (cn 40 (sr [ft 43 0 2,lf 44 1 43,ft 45 1 3,lf 46 1 45,kb 47 zkl 44 46,mt 42 47,eu 48 42 0,eu 49 42 1,mt 11 48,mt 12 49] (rr [mt 50 11,mt 51 12,mt 52 51,(gt 52,mt 53 11),(gt 52,.call (some 54) zkm [t 53]),an 55 52 54,mt 4 50,mt 5 55])) (sr [bi 57 .eql 34 4,mt 56 57] (cn 56 (rr [lg 58 2 2,ft 59 1 3,lf 60 1 59,mt 61 6,kc 62 zz6 [t 58,t 60,t 61],eu 63 62 0,eu 64 62 1,mt 4 63,mt 5 64]) (sr [bi 66 .eql 34 5,mt 65 66] (cn 65 (rr [mi 4 0,mv 5 false]) (sr [bi 68 .eql 34 9,mt 67 68] (cn 67 (rr [mt 69 6,idx 70 1 (t 69) (0:Int),lf 71 1 70,kc 72 zWz [.c (.d (.int .i64 0)),t 71],eu 73 72 0,eu 74 72 1,mt 4 73,mt 5 74]) (sr [bi 76 .eql 34 14,mt 75 76] (ci 75 (rr [mt 77 6,idx 78 1 (t 77) (0:Int),lf 79 1 78,bi 80 .eql 79 0,ka 81 zzT 80,mt 4 81,mv 5 true]))))))))))))))) (seq (regd [ft 82 0 3,lf 83 1 82,mt 84 6,idx 85 1 (t 84) (0:Int),lf 86 1 85,mt 87 6,idx 88 1 (t 87) (1:Int),lf 89 1 88,kc 90 zyN [t 83,t 86,t 89],eu 91 90 0,eu 92 90 1,mt 4 91,mt 5 92]) ret)))),[.t 4,.t 5]⟩
def zxI:AC:=sr [bt 12 .lss 11 10] (seq (cn 12 skip (exit 0)) (seq (block 1 (sr [ix 13 4 9 11,lg 14 4 13,alloc 8 zoc,su 4 8 14] (sr [mt 15 2,lg 16 4 4,lg 17 4 8,call (some 18) (t 15) [t 16,t 17]] (ci 18 (rr [mv 6 true]))))) (reg [bi 19 .add 11 1,mt 11 19])))
def zvX:FnA:=⟨20,sr [box 4 (t 1),mv 6 false] (seq (sr [mt 9 0,ln 10 9,mi 11 0] (block 0 (loop zxI))) (rr [mv 6 false])),[.t 6]⟩
def zjz:AC:=sr [bt 20 .lss 19 18] (seq (cn 20 skip (exit 1)) (seq (block 2 (sr [ix 21 3 17 19,lg 22 3 21,alloc 7 zod,su 3 7 22] (sr [ft 23 0 7,lf 24 1 23,mt 25 1,bt 26 .eql 24 25] (ci 26 (sr [ft 27 1 7,lf 28 1 27,ka 29 zzA 28,ft 30 1 7,su 1 30 29] (rr [lg 31 3 7,su 3 4 31,mv 5 true])))))) (reg [bi 32 .add 19 1,mt 19 32])))
def zJf:FnA:=⟨34,sr [box 2 (t 0),alloc 4 zod,mv 5 false] (seq (sr [mt 8 1] (block 0 (sr [bq 10 .eql 8 (.c (.d (.str [116,97,103]))),mt 9 10] (cn 9 (rr [build 11 zod [(0,1,.c (.d (.str [116,97,103]))),(2,1,.c (.d (.str [73,110,116])))],su 3 4 11,mv 5 true]) (sr [bq 13 .eql 8 (.c (.d (.str [118,97,108]))),mt 12 13] (ci 12 (rr [bsl 14 1 [.c (.d (.str [67,101,108,108]))],build 15 zod [(0,1,.c (.d (.str [118,97,108]))),(1,1,t 14),(2,1,.c (.d (.str [73,110,116])))],su 3 4 15,mv 5 true]))))))) (seq (sr [ft 16 1 2,lf 17 1 16,ln 18 17,mi 19 0] (block 1 (loop zjz))) (rr [build 33 zod [],su 3 4 33,mv 5 false]))),[.c 4 true 3,.t 5]⟩
def zYg:FnA:=⟨13,sr [mv 2 false] (rr [mt 3 0,bq 4 .eql 3 (.c (.d (.str [73,110,116]))),mt 5 4,(gf 5,mt 6 0),(gf 5,bq 7 .eql 6 (.c (.d (.str [66,111,111,108])))),ou 8 5 7,mt 9 8,(gf 9,mt 10 0),(gf 9,bq 11 .eql 10 (.c (.d (.str [67,101,108,108])))),ou 12 9 11,mt 2 12]),[.t 2]⟩
def zjA:AC:=sr [bt 12 .lss 11 10] (seq (cn 12 skip (exit 0)) (seq (block 1 (sr [ix 13 2 9 11,lg 14 2 13,alloc 7 [.d (.str []),.full []],su 2 7 14] (sr [ft 15 0 7,lf 16 1 15,mt 17 1,bt 18 .eql 16 17] (ci 18 (sr [ft 19 1 7,lf 20 1 19,ka 21 zzE 20,ft 22 1 7,su 1 22 21] (rr [lg 23 2 7,su 2 4 23,mv 5 true])))))) (reg [bi 24 .add 11 1,mt 11 24])))
def zJg:FnA:=⟨26,sr [box 2 (t 0),alloc 4 [.d (.str []),.full []],mv 5 false] (seq (sr [ft 8 2 2,lf 9 1 8,ln 10 9,mi 11 0] (block 0 (loop zjA))) (rr [build 25 [.d (.str []),.full []] [],su 2 4 25,mv 5 false])),[.c 4 true 2,.t 5]⟩
def zX2:FnA:=⟨4,sr [box 1 (t 0),mv 2 (.c (.d (.nilf)))] (rr [mkf 3 zys [t 1],mt 2 3]),[.t 2]⟩
def zjB:FnA:=⟨10,sr [mv 2 false] (seq (regd [mt 3 0,idx 4 1 (t 3) (0:Int),lf 5 1 4,mt 6 0,idx 7 1 (t 6) (1:Int),lf 8 1 7,bt 9 .eql 5 8,mt 2 9]) ret),[.t 2]⟩
def zjq:AC:=seq (sr [mt 6 5,mt 7 0,ls 8 7,bt 9 .lss 6 8] (cn 9 skip (exit 0))) (seq (block 1 (sr [mt 12 0,mt 13 5,sidx 14 (t 12) (t 13),bq 15 .eql 14 (.c (.d (.int .u8 46)))] (ci 15 (seq (regd [mt 16 0,mt 17 5,sto 18 (t 16) (0:Int) (t 17),mt 19 0,mt 20 5,bi 21 .add 20 1,sfrom 22 (t 19) (t 21),mt 2 18,mt 3 22,mv 4 true]) ret)))) (reg [mt 10 5,bi 11 .add 10 1,mt 5 11]))
def zVS:FnA:=⟨24,sr [mv 2 (.c (.d (.str []))),mv 3 (.c (.d (.str []))),mv 4 false] (seq (sr [mi 5 0] (block 0 (loop zjq))) (rr [mt 23 0,mt 2 23,mv 3 (.c (.d (.str []))),mv 4 false])),[.t 2,.t 3,.t 4]⟩
def zvO:AC:=seq (sr [mt 17 3,mt 18 0,ls 19 18,bt 20 .lss 17 19] (cn 20 skip (exit 0))) (seq (block 1 (sr [mt 23 0,mt 24 3,sidx 25 (t 23) (t 24),ka 26 zxL 25,nu 27 26,mt 28 27,(gt 28,mt 29 0),(gt 28,mt 30 3),(gt 28,.sidx 31 (t 29) (t 30)),(gt 28,.call (some 32) zx8 [t 31]),(gt 28,nu 33 32),an 34 28 33,mt 35 34,(gt 35,mt 36 0),(gt 35,mt 37 3),(gt 35,.sidx 38 (t 36) (t 37)),(gt 35,bq 39 .neq 38 (.c (.d (.int .u8 95)))),an 40 35 39] (ci 40 (rr [mv 2 false])))) (reg [mt 21 3,bi 22 .add 21 1,mt 3 22]))
def zKa:FnA:=⟨41,sr [mv 2 false] (seq (sr [mt 4 0,ka 5 zx9 4,nu 6 5,mt 7 6,(gf 7,mt 8 0),(gf 7,.sidx 9 (t 8) (0:Int)),(gf 7,.call (some 10) zxL [t 9]),(gf 7,nu 11 10),ou 12 7 11,mt 13 12,(gf 13,mt 14 0),(gf 13,.call (some 15) zwr [t 14]),ou 16 13 15] (ci 16 (rr [mv 2 false]))) (seq (sr [mi 3 1] (block 0 (loop zvO))) (rr [mv 2 true]))),[.t 2]⟩
def zXV:FnA:=⟨31,sr [mv 2 false] (seq (sr [mt 3 0,ka 4 zx9 3,nu 5 4,mt 6 5,(gf 6,mt 7 0),(gf 6,.sidx 8 (t 7) (0:Int)),(gf 6,.call (some 9) zxK [t 8]),(gf 6,nu 10 9),ou 11 6 10,mt 12 11,(gf 12,mt 13 0),(gf 12,.call (some 14) zyf [t 13]),(gf 12,nu 15 14),ou 16 12 15] (ci 16 (rr [mv 2 false]))) (rr [mt 17 0,bq 18 .neq 17 (.c (.d (.str [73,110,116]))),mt 19 18,(gt 19,mt 20 0),(gt 19,bq 21 .neq 20 (.c (.d (.str [66,111,111,108])))),an 22 19 21,mt 23 22,(gt 23,mt 24 0),(gt 23,bq 25 .neq 24 (.c (.d (.str [67,101,108,108])))),an 26 23 25,mt 27 26,(gt 27,mt 28 0),(gt 27,bq 29 .neq 28 (.c (.d (.str [70,117,110])))),an 30 27 29,mt 2 30])),[.t 2]⟩
def zXT:FnA:=⟨11,sr [mv 2 false] (rr [mt 3 0,ls 4 3,bi 5 .geq 4 1,mt 6 5,(gt 6,mt 7 0),(gt 6,ls 8 7),(gt 6,bi 9 .leq 8 24),an 10 6 9,mt 2 10]),[.t 2]⟩
def zxp:AC:=seq (sr [mt 4 3,mt 5 0,ls 6 5,bt 7 .lss 4 6] (cn 7 skip (exit 0))) (seq (block 1 (sr [mt 10 0,mt 11 3,sidx 12 (t 10) (t 11),ka 13 zxL 12,nu 14 13,mt 15 14,(gt 15,mt 16 0),(gt 15,mt 17 3),(gt 15,.sidx 18 (t 16) (t 17)),(gt 15,.call (some 19) zxK [t 18]),(gt 15,nu 20 19),an 21 15 20,mt 22 21,(gt 22,mt 23 0),(gt 22,mt 24 3),(gt 22,.sidx 25 (t 23) (t 24)),(gt 22,.call (some 26) zx8 [t 25]),(gt 22,nu 27 26),an 28 22 27] (ci 28 (rr [mv 2 false])))) (reg [mt 8 3,bi 9 .add 8 1,mt 3 9]))
def zvx:FnA:=⟨29,sr [mv 2 false] (seq (sr [mi 3 0] (block 0 (loop zxp))) (rr [mv 2 true])),[.t 2]⟩
def zvP:AC:=seq (sr [mt 4 3,mt 5 0,ls 6 5,bt 7 .lss 4 6] (cn 7 skip (exit 0))) (seq (block 1 (sr [mt 10 0,mt 11 3,sidx 12 (t 10) (t 11),ka 13 zxL 12,nu 14 13,mt 15 14,(gt 15,mt 16 3),(gt 15,bi 17 .eql 16 0),(gt 15,mt 18 17),(gf 18,mt 19 0),(gf 18,mt 20 3),(gf 18,.sidx 21 (t 19) (t 20)),(gf 18,.call (some 22) zx8 [t 21]),(gf 18,nu 23 22),(gf 18,mt 24 23),(gt 24,mt 25 0),(gt 24,mt 26 3),(gt 24,.sidx 27 (t 25) (t 26)),(gt 24,bq 28 .neq 27 (.c (.d (.int .u8 95)))),(gf 18,an 29 24 28),(gt 15,ou 30 18 29),an 31 15 30] (ci 31 (rr [mv 2 false])))) (reg [mt 8 3,bi 9 .add 8 1,mt 3 9]))
def zKb:FnA:=⟨32,sr [mv 2 false] (seq (sr [mi 3 0] (block 0 (loop zvP))) (rr [mv 2 true])),[.t 2]⟩
def zkh:FnA:=⟨24,sr [box 3 (t 1),alloc 4 zoc] (seq (sr [ft 8 0 3,lf 9 1 8,ln 10 9,bi 11 .eql 10 0] (ci 11 (rr [ft 12 1 3,lf 13 1 12,bi 14 .eql 13 0,ka 15 zxF 14,su 4 4 15]))) (sr [mt 17 0,lg 18 2 3,kd 19 zzB [t 17,t 18],mt 16 19,eu 20 16 0,eu 21 16 1,eu 22 16 2,alloc 5 zoc,alloc 6 zoc,su 4 5 20,su 4 6 21,mt 7 22] (rr [lg 23 4 5,su 4 4 23]))),[.c 4 true 4]⟩
def zVM:FnA:=⟨6,sr [box 1 (t 0),alloc 2 zoc] (rr [lg 3 4 1,bsl 4 4 [t 3],build 5 zoc [(0,1,.c (.d (.int .i64 14))),(3,1,t 4)],su 4 2 5]),[.c 2 true 4]⟩
def zzG:FnA:=⟨96,sr [box 3 (t 1),alloc 4 zoh] (seq (sr [ft 8 0 3,lf 9 1 8] (block 0 (sr [bi 11 .eql 9 1,mt 10 11] (cn 10 (rr [ft 12 2 3,lf 13 1 12,build 14 zoh [(1,1,t 13)],su 2 4 14]) (sr [bi 16 .eql 9 6,mt 15 16] (cn 15 (sr [mt 17 0,ft 18 3 3,lf 19 1 18,idx 20 4 (t 19) (0:Int),lg 21 4 20,kd 22 zzr [t 17,t 21],alloc 5 zoh,su 2 5 22] (seq (.regd2 [mt 23 0,mt 25 0,ft 26 3 3,lf 27 1 26,idx 28 4 (t 27) (1:Int),lg 29 4 28] (lg 24 2 5) (kd 30 zzr [t 25,t 29]) [kb 31 zyz 24 30,eu 32 31 0,eu 33 31 1,kd 34 zzj [t 23,t 32,t 33],su 2 4 34]) ret)) (sr [bi 36 .eql 9 7,mt 35 36] (cn 35 (sr [mt 37 0,ft 38 3 3,lf 39 1 38,idx 40 4 (t 39) (0:Int),lg 41 4 40,kd 42 zzr [t 37,t 41],alloc 6 zoh,su 2 6 42] (sr [mt 43 0,ft 44 3 3,lf 45 1 44,idx 46 4 (t 45) (1:Int),lg 47 4 46,kd 48 zzr [t 43,t 47],alloc 7 zoh,su 2 7 48] (seq (.regd2 [mt 49 0,mt 51 0,lg 52 2 7,kc 53 zyv [t 52,.c (.d (.int .i64 (-1)))],eu 54 53 0,eu 55 53 1] (lg 50 2 6) (kd 56 zzj [t 51,t 54,t 55]) [kb 57 zyz 50 56,eu 58 57 0,eu 59 57 1,kd 60 zzj [t 49,t 58,t 59],su 2 4 60]) ret))) (sr [bi 62 .eql 9 8,mt 61 62] (cn 61 (seq (.scope (seq (.regk [71,74] [mt 63 0,mt 64 0,ft 65 3 3,lf 66 1 65,idx 67 4 (t 66) (1:Int),lg 68 4 67,kd 69 zzr [t 64,t 68],ft 70 3 3,lf 71 1 70,idx 72 4 (t 71) (0:Int),ft 73 2 72,lf 74 1 73,kb 75 zyv 69 74,eu 76 75 0,eu 77 75 1,kd 78 zzj [t 63,t 76,t 77],su 2 4 78]) skip)) ret) (sr [bi 80 .eql 9 9,mt 79 80] (ci 79 (rr [mt 81 0,mt 82 0,ft 83 3 3,lf 84 1 83,idx 85 4 (t 84) (0:Int),lg 86 4 85,kd 87 zzr [t 82,t 86],kc 88 zyv [t 87,.c (.d (.int .i64 (-1)))],eu 89 88 0,eu 90 88 1,kd 91 zzj [t 81,t 89,t 90],su 2 4 91]))))))))))))) (rr [mt 92 0,lg 93 4 3,ka 94 zyx 93,kd 95 zzo [t 92,t 94],su 2 4 95])),[.c 4 true 2]⟩
def zXQ:FnA:=⟨6,sr [alloc 2 zoc] (seq (sr [mt 3 0] (ci 3 (rr [build 4 zoc [(0,1,.c (.d (.int .i64 2))),(2,1,.c (.d (.int .i64 1)))],su 4 2 4]))) (rr [build 5 zoc [(0,1,.c (.d (.int .i64 2)))],su 4 2 5])),[.c 2 true 4]⟩
def zwK:FnA:=⟨30,sr [box 3 (t 1),alloc 4 zoc] (seq (sr [ft 8 0 3,lf 9 1 8,ln 10 9,bi 11 .eql 10 0] (ci 11 (rr [ft 12 1 3,lf 13 1 12,bi 14 .lss 13 0,ka 15 zxF 14,su 4 4 15]))) (sr [mt 17 0,lg 18 2 3,kd 19 zzB [t 17,t 18],mt 16 19,eu 20 16 0,eu 21 16 1,eu 22 16 2,alloc 5 zoc,alloc 6 zoc,su 4 5 20,su 4 6 21,mt 7 22] (seq (sr [mt 23 7] (ci 23 (rr [lg 24 4 6,ka 25 zwH 24,su 4 4 25]))) (seq (regd [lg 26 4 6,lg 27 4 5,ka 28 zwH 27,kc 29 zwn [.c (.d (.int .i64 15)),t 26,t 28],su 4 4 29]) ret)))),[.c 4 true 4]⟩
def zxH:FnA:=⟨65,sr [box 3 (t 1),alloc 4 zoc,alloc 5 zoc,mv 6 false] (sr [lg 15 2 3,ka 16 zk7 15,mt 14 16,eu 17 14 0,eu 18 14 1,alloc 7 zoh,su 2 7 17,mt 8 18] (sr [lg 19 2 7,ka 20 zKV 19,mt 9 20] (sr [mt 22 0,nck 23 (t 22),ft 24 3 23,lf 25 1 24,mt 26 9,mget 27 true zzN zxk (.str []) (MV.one (.int .i64 0)) (t 25) (t 26),mt 21 27,eu 28 21 0,eu 29 21 1,mt 10 28,mt 11 29] (seq (sr [mt 30 11,nu 31 30] (ci 31 (sr [mt 32 0,nck 33 (t 32),ft 34 4 33,lf 35 1 34,ln 36 35,mt 10 36] (sr [mt 37 0,nck 38 (t 37),ft 39 3 38,lf 40 1 39,mt 41 9,mt 42 10,mput zzN zxk (.str []) (t 40) (t 41) (t 42)] (regd [mt 43 0,mt 44 0,nck 45 (t 44),ft 46 4 45,lf 47 1 46,lg 48 2 7,bsl 49 2 [t 48],ap 50 2 32 47 49,nck 51 (t 43),ft 52 4 51,su 1 52 50]))))) (sr [mt 53 10,ka 54 strconv_Itoa 53,build 55 zoc [(0,1,.c (.d (.int .i64 3))),(1,1,t 54)],alloc 12 zoc,su 4 12 55] (sr [build 56 zoc [(0,1,.c (.d (.int .i64 1)))],alloc 13 zoc,su 4 13 56] (seq (regd [lg 57 4 12,lg 58 4 13,kc 59 zwn [.c (.d (.int .i64 10)),t 57,t 58],lg 60 4 12,lg 61 4 13,kc 62 zwn [.c (.d (.int .i64 13)),t 60,t 61],mt 63 8,bi 64 .lss 63 0,su 4 4 59,su 4 5 62,mt 6 64]) ret))))))),[.c 4 true 4,.c 5 true 4,.t 6]⟩
def zYA:FnA:=⟨9,sr [box 1 (t 0),alloc 2 zoh,mv 3 false] (seq (sr [lg 4 2 1,ka 5 zyj 4,bi 6 .neq 5 0] (ci 6 (rr [build 7 zoh [],su 2 2 7,mv 3 false]))) (rr [lg 8 2 1,su 2 2 8,mv 3 true])),[.c 2 true 2,.t 3]⟩
def zyZ:AC:=sr [bt 14 .lss 13 12] (seq (cn 14 skip (exit 0)) (seq (block 1 (sr [ix 15 2 11 13,lg 16 2 15,alloc 8 zog,su 2 8 16] (sr [mt 18 1,lg 19 2 8,call (some 20) (t 18) [t 19],mt 17 20,eu 21 17 0,eu 22 17 1,alloc 9 zog,su 2 9 21,mt 10 22] (seq (sr [mt 23 10,nu 24 23] (ci 24 (rr [mv 4 (.c (.full [])),mv 5 false]))) (reg [mt 25 6,lg 26 2 9,bsl 27 2 [t 26],ap 28 2 24 25 27,mt 6 28]))))) (reg [bi 29 .add 13 1,mt 13 29])))
def zkz:FnA:=⟨31,sr [mv 4 (.c (.full [])),mv 5 false] (sr [mv 6 (.c (.full []))] (seq (sr [mt 11 0,ln 12 11,mi 13 0] (block 0 (loop zyZ))) (rr [mt 30 6,mt 4 30,mv 5 true]))),[.t 4,.t 5]⟩
def zqW:FnA:=⟨19,sr [box 2 (t 0),alloc 3 zog,mv 4 false] (sr [ft 8 1 2,lf 9 1 8,lf 10 1 1,kb 11 zqD 9 10,mt 7 11,eu 12 7 0,eu 13 7 1,mt 5 12,mt 6 13] (rr [ft 14 0 2,lf 15 1 14,mt 16 5,build 17 zog [(0,1,t 15),(1,1,t 16)],mt 18 6,su 2 3 17,mt 4 18])),[.c 3 true 2,.t 4]⟩
def zqZ:FnA:=⟨7,sr [alloc 2 zoe] (seq (sr [mt 3 0] (ci 3 (rr [build 4 zoe [],su 3 2 4]))) (rr [build 5 zoh [(1,1,.c (.d (.int .i64 1)))],build 6 zoe [(0,2,t 5)],su 3 2 6])),[.c 2 true 3]⟩
def zwD:AC:=sr [bt 11 .lss 10 9] (seq (cn 11 skip (exit 0)) (seq (block 1 (sr [ix 12 2 8 10,lg 13 2 12,alloc 6 zog,su 2 6 13] (reg [mt 14 1,ft 15 1 6,lf 16 1 15,kb 17 zWy 14 16,mt 1 17]))) (reg [bi 18 .add 10 1,mt 10 18])))
def zqY:FnA:=⟨20,sr [box 2 (t 0),mi 4 0] (seq (sr [ft 7 0 2,lf 8 1 7,ln 9 8,mi 10 0] (block 0 (loop zwD))) (rr [mt 19 1,mt 4 19])),[.t 4]⟩
def yyk:FnA:=⟨18,sr [mi 4 0,mv 5 false] (sr [mt 10 0,mt 11 1,kb 12 zjh 10 11,mt 9 12,eu 13 9 0,eu 14 9 1,eu 15 9 2,mt 6 13,mt 7 14,mt 8 15] (rr [mt 16 6,mt 17 8,mt 4 16,mt 5 17])),[.t 4,.t 5]⟩
def zkW:FnA:=⟨14,sr [box 3 (t 1),mv 4 (.c (.full []))] (sr [mt 8 0,mkf 9 zzW [t 3],kb 10 zz2 8 9,mt 7 10,eu 11 7 0,eu 12 7 1,mt 5 11,mt 6 12] (rr [mt 13 5,mt 4 13])),[.t 4]⟩
def zkA:AC:=sr [bt 11 .lss 10 9] (seq (cn 11 skip (exit 0)) (seq (block 1 (sr [ix 12 2 8 10,lg 13 2 12,alloc 7 zog,su 2 7 13] (sr [ft 14 0 7,lf 15 1 14,mt 16 1,bt 17 .eql 15 16] (ci 17 (rr [ft 18 1 7,lf 19 1 18,mt 4 19,mv 5 true]))))) (reg [bi 20 .add 10 1,mt 10 20])))
def zYC:FnA:=⟨21,sr [mi 4 0,mv 5 false] (seq (sr [mt 8 0,ln 9 8,mi 10 0] (block 0 (loop zkA))) (rr [mi 4 0,mv 5 false])),[.t 4,.t 5]⟩
def zyJ:AC:=sr [bt 14 .lss 13 12] (seq (cn 14 skip (exit 0)) (seq (block 1 (sr [ix 15 3 11 13,lg 16 3 15,alloc 9 [.d (.str []),.full [],(0:Int)],su 3 9 16] (sr [ft 17 0 9,lf 18 1 17,mt 19 1,bt 20 .eql 18 19,mt 21 20,(gt 21,ft 22 1 9),(gt 21,lf 23 1 22),(gt 21,mt 24 2),(gt 21,.call (some 25) zyh [t 23,t 24]),an 26 21 25] (ci 26 (seq (regd [ft 27 2 9,lf 28 1 27,ft 29 2 9,lf 30 1 29,ka 31 zkm 30,mt 6 28,mt 7 31]) ret))))) (reg [bi 32 .add 13 1,mt 13 32])))
def zwM:FnA:=⟨33,sr [box 3 (t 0),mi 6 0,mv 7 false] (seq (sr [ft 10 1 3,lf 11 1 10,ln 12 11,mi 13 0] (block 0 (loop zyJ))) (rr [mi 6 0,mv 7 false])),[.t 6,.t 7]⟩
def yyn:FnA:=⟨20,sr [mi 4 0,mv 5 false] (seq (sr [mt 6 0,ka 7 zkm 6,nu 8 7,mt 9 8,(gf 9,mt 10 1),(gf 9,.call (some 11) zkm [t 10]),(gf 9,nu 12 11),ou 13 9 12] (ci 13 (rr [mi 4 0,mv 5 false]))) (rr [mt 14 0,mt 15 1,bt 16 .sub 14 15,kc 17 zwa [t 16,.c (.d (.bool true))],eu 18 17 0,eu 19 17 1,mt 4 18,mt 5 19])),[.t 4,.t 5]⟩
def zZ7:FnA:=⟨4,sr [mi 2 0] (seq (sr [mt 3 0] (ci 3 (rr [mi 2 1]))) (rr [mi 2 0])),[.t 2]⟩
def zzs:FnA:=⟨89,sr [mi 6 0,mv 7 false] (seq (sr [mt 8 0] (block 0 (sr [bi 10 .eql 8 6,mt 9 10] (cn 9 (rr [mt 11 1,mt 12 2,kb 13 zYZ 11 12,eu 14 13 0,eu 15 13 1,mt 6 14,mt 7 15]) (sr [bi 17 .eql 8 7,mt 16 17] (cn 16 (rr [mt 18 1,mt 19 2,kb 20 zWz 18 19,eu 21 20 0,eu 22 20 1,mt 6 21,mt 7 22]) (sr [bi 24 .eql 8 8,mt 23 24] (cn 23 (rr [mt 25 1,mt 26 2,kb 27 zqD 25 26,eu 28 27 0,eu 29 27 1,mt 6 28,mt 7 29]) (sr [bi 31 .eql 8 10,mt 30 31] (cn 30 (rr [mt 32 1,mt 33 2,bt 34 .eql 32 33,ka 35 zzT 34,mt 6 35,mv 7 true]) (sr [bi 37 .eql 8 11,mt 36 37] (cn 36 (rr [mt 38 1,mt 39 2,bt 40 .neq 38 39,ka 41 zzT 40,mt 6 41,mv 7 true]) (sr [bi 43 .eql 8 12,mt 42 43] (cn 42 (rr [mt 44 1,mt 45 2,bt 46 .lss 44 45,ka 47 zzT 46,mt 6 47,mv 7 true]) (sr [bi 49 .eql 8 13,mt 48 49] (cn 48 (rr [mt 50 1,mt 51 2,bt 52 .leq 50 51,ka 53 zzT 52,mt 6 53,mv 7 true]) (sr [bi 55 .eql 8 15,mt 54 55] (cn 54 (rr [mt 56 1,bi 57 .neq 56 0,mt 58 57,(gt 58,mt 59 2),(gt 58,bi 60 .neq 59 0),an 61 58 60,ka 62 zzT 61,mt 6 62,mv 7 true]) (sr [bi 64 .eql 8 16,mt 63 64] (cn 63 (rr [mt 65 1,bi 66 .neq 65 0,mt 67 66,(gf 67,mt 68 2),(gf 67,bi 69 .neq 68 0),ou 70 67 69,ka 71 zzT 70,mt 6 71,mv 7 true]) (sr [bi 73 .eql 8 17,mt 72 73] (cn 72 (rr [mt 74 1,bi 75 .eql 74 0,mt 76 75,(gf 76,mt 77 2),(gf 76,bi 78 .neq 77 0),ou 79 76 78,ka 80 zzT 79,mt 6 80,mv 7 true]) (sr [bi 82 .eql 8 18,mt 81 82] (ci 81 (rr [mt 83 1,bi 84 .neq 83 0,mt 85 2,bi 86 .neq 85 0,beq 87 false (t 84) (t 86),ka 88 zzT 87,mt 6 88,mv 7 true]))))))))))))))))))))))))) (rr [mi 6 0,mv 7 false])),[.t 6,.t 7]⟩
def zy5:FnA:=⟨8,sr [mv 2 (.c (.full []))] (seq (sr [mt 3 0,isnil 4 (t 3)] (ci 4 (rr [mv 2 (.c (.full []))]))) (rr [bsl 5 1 [],mt 6 0,ap 7 1 16 5 6,mt 2 7])),[.t 2]⟩
def zxr:FnA:=⟨8,sr [mv 2 (.c (.full []))] (seq (sr [mt 3 0,isnil 4 (t 3)] (ci 4 (rr [mv 2 (.c (.full []))]))) (rr [bsl 5 2 [],mt 6 0,ap 7 2 32 5 6,mt 2 7])),[.t 2]⟩
def zw9:AC:=sr [bt 9 .lss 8 7] (seq (cn 9 skip (exit 0)) (seq (block 1 (sr [ix 10 1 6 8,lf 11 1 10,mt 5 11] (sr [mt 12 5,lf 13 1 1,bt 14 .neq 12 13] (ci 14 (rr [mv 3 false]))))) (reg [bi 15 .add 8 1,mt 8 15])))
def zYf:FnA:=⟨16,sr [mv 3 false] (seq (sr [mt 6 0,ln 7 6,mi 8 0] (block 0 (loop zw9))) (rr [mv 3 true])),[.t 3]⟩
def zXU:FnA:=⟨9,sr [mv 2 false] (rr [mt 3 0,bin 4 .leq (.c (.d (.int .u8 97))) (t 3),mt 5 4,(gt 5,mt 6 0),(gt 5,bq 7 .leq 6 (.c (.d (.int .u8 122)))),an 8 5 7,mt 2 8]),[.t 2]⟩
def zw6:AC:=sr [bi 7 .lss 6 42] (seq (cn 7 skip (exit 0)) (seq (block 1 (sr [aidx 8 42 (t 5) (t 6),mt 4 8] (sr [mt 9 4,mt 10 0,bt 11 .eql 9 10] (ci 11 (rr [mv 2 true]))))) (reg [bi 12 .add 6 1,mt 6 12])))
def zZ8:FnA:=⟨13,sr [mv 2 false] (seq (sr [ld 5 true 42 (.c (.d (.gp 2 0))),mi 6 0] (block 0 (loop zw6))) (rr [mv 2 false])),[.t 2]⟩
def zXS:FnA:=⟨9,sr [mv 2 false] (rr [mt 3 0,bin 4 .leq (.c (.d (.int .u8 48))) (t 3),mt 5 4,(gt 5,mt 6 0),(gt 5,bq 7 .leq 6 (.c (.d (.int .u8 57)))),an 8 5 7,mt 2 8]),[.t 2]⟩
def zZ9:FnA:=⟨9,sr [mv 2 false] (rr [mt 3 0,bin 4 .leq (.c (.d (.int .u8 65))) (t 3),mt 5 4,(gt 5,mt 6 0),(gt 5,bq 7 .leq 6 (.c (.d (.int .u8 90)))),an 8 5 7,mt 2 8]),[.t 2]⟩
def zvl:FnA:=⟨48,sr [box 1 (t 0),alloc 2 zoh,mi 3 0] (seq (sr [lg 6 2 1,ka 7 zyj 6,bi 8 .neq 7 0] (ci 8 (rr [build 9 zoh [],su 2 2 9,mi 3 0]))) (seq (sr [ft 10 0 1,lf 11 1 10,ln 12 11,bi 13 .eql 12 0] (ci 13 (seq (block 0 (sr [ft 15 1 1,lf 16 1 15,bi 17 .gtr 16 0,mt 14 17] (cn 14 (rr [build 18 zoh [(1,1,.c (.d (.int .i64 1)))],su 2 2 18,mi 3 1]) (sr [ft 20 1 1,lf 21 1 20,bi 22 .lss 21 0,mt 19 22] (ci 19 (rr [build 23 zoh [(1,1,.c (.d (.int .i64 1)))],su 2 2 23,mv 3 (-1:Int)])))))) (rr [build 24 zoh [],su 2 2 24,mi 3 1])))) (seq (regd [lg 25 2 1,ft 26 1 1,lf 27 1 26,kc 28 zWy [t 27,.c (.d (.int .i64 0))],kb 29 zxg 25 28,mt 4 29,mi 5 1]) (seq (sr [ft 30 0 1,lf 31 1 30,idx 32 2 (t 31) (0:Int),ft 33 1 32,lf 34 1 33,bi 35 .lss 34 0] (ci 35 (reg [mt 36 4,bin 37 .sub (0:Int) (t 36),mt 4 37,mv 5 (-1:Int)]))) (seq (regd [ft 38 0 1,lf 39 1 38,mt 40 4,kb 41 zyr 39 40,ft 42 1 1,lf 43 1 42,mt 44 4,bt 45 .quo 43 44,build 46 zoh [(0,1,t 41),(1,1,t 45)],mt 47 5,su 2 2 46,mt 3 47]) ret))))),[.c 2 true 2,.t 3]⟩
def zZw:AC:=seq (sr [mt 9 1,bi 10 .neq 9 0] (cn 10 skip (exit 0))) (block 1 (regd [mt 11 1,mt 12 0,mt 13 1,bt 14 .rem 12 13,mt 0 11,mt 1 14]))
def yyl:FnA:=⟨16,sr [mi 4 0] (sr [mt 5 0,ka 6 zZH 5,mt 7 1,ka 8 zZH 7,mt 0 6,mt 1 8] (seq (block 0 (loop zZw)) (rr [mt 15 0,mt 4 15]))),[.t 4]⟩
def zKc:FnA:=⟨43,sr [mi 4 0,mi 5 0,mv 6 false] (seq (sr [mt 9 0,ka 10 zkm 9,nu 11 10,mt 12 11,(gf 12,mt 13 1),(gf 12,.call (some 14) zkm [t 13]),(gf 12,nu 15 14),ou 16 12 15,mt 17 16,(gf 17,mt 18 1),(gf 17,bi 19 .eql 18 0),ou 20 17 19] (ci 20 (rr [mi 4 0,mi 5 0,mv 6 false]))) (seq (regd [mt 21 0,mt 22 1,bt 23 .quo 21 22,mt 24 0,mt 25 1,bt 26 .rem 24 25,mt 7 23,mt 8 26]) (seq (sr [mt 27 8,bi 28 .neq 27 0,mt 29 28,(gt 29,mt 30 8),(gt 29,bi 31 .lss 30 0),(gt 29,mt 32 1),(gt 29,bi 33 .lss 32 0),(gt 29,.beq 34 true (t 31) (t 33)),an 35 29 34] (ci 35 (sr [mt 36 7,bi 37 .sub 36 1,mt 7 37] (reg [mt 38 8,mt 39 1,bt 40 .add 38 39,mt 8 40])))) (rr [mt 41 7,mt 42 8,mt 4 41,mt 5 42,mv 6 true])))),[.t 4,.t 5,.t 6]⟩
def zw5:FnA:=⟨12,sr [box 2 (t 0),alloc 3 zog,mv 4 false] (seq (regd [ft 5 0 2,lf 6 1 5,ft 7 1 2,lf 8 1 7,lf 9 1 1,bt 10 .quo 8 9,build 11 zog [(0,1,t 6),(1,1,t 10)],su 2 3 11,mv 4 true]) ret),[.c 3 true 2,.t 4]⟩
def zy0:AC:=sr [bt 14 .lss 13 12] (seq (cn 14 skip (exit 0)) (seq (block 1 (sr [mt 15 13,mt 5 15] (seq (regd [mt 16 0,mt 17 5,ix 18 1 16 17,lf 19 1 18,mt 20 1,mt 21 5,ix 22 1 20 21,lf 23 1 22,bt 24 .neq 19 23]) (ci 24 (rr [mv 4 false]))))) (reg [bi 25 .add 13 1,mt 13 25])))
def zkG:FnA:=⟨26,sr [mv 4 false] (seq (sr [mt 6 0,ln 7 6,mt 8 1,ln 9 8,bt 10 .neq 7 9] (ci 10 (rr [mv 4 false]))) (seq (sr [mt 11 0,ln 12 11,mi 13 0] (block 0 (loop zy0))) (rr [mv 4 true]))),[.t 4]⟩
abbrev Bd(E:AEnv)(f:FnA)(i:FuncId):Prop:=∀args r,Body E f args r→E.C i args r
structure Sys(E:AEnv):Prop where
 zvo:Bd E zK9 zvo
 zx6:Bd E zVR zx6
 zzS:Bd E zVO zzS
 zkS:Bd E zW3 zkS
 zyx:Bd E zW4 zyx
 zkM:Bd E zVP zkM
 zy3:Bd E zZ1 zy3
 zzF:Bd E zkH zzF
 zws:Bd E zKd zws
 zwi:Bd E zYM zwi
 zzP:Bd E zqR zzP
 zyw:Bd E zzZ zyw
 zke:Bd E zW5 zke
 zjE:Bd E zVQ zjE
 zx7:Bd E zYz zx7
 zyA:Bd E zvw zyA
 zwq:Bd E zZ6 zwq
 zKv:Bd E yw3 zKv
 zXr:Bd E yxI zXr
 zj5:Bd E zQk zj5
 zvG:Bd E zV8 zvG
 zqz:Bd E yyh zqz
 zxs:Bd E yyi zxs
 l12_v:Bd E yqd l12_v
 zYU:Bd E yyg zYU
 l12_n:Bd E yqc l12_n
 zwS:Bd E zVT zwS
 zkU:Bd E zZv zkU
 zyD:Bd E zvy zyD
 zv8:Bd E zv0 zv8
 zkT:Bd E zXP zkT
 zxa:Bd E zqS zxa
 zwn:Bd E zQj zwn
 zZI:Bd E zQm zZI
 zyd:Bd E zYN zyd
 zks:Bd E zYO zks
 zvc:Bd E zKg zvc
 zvb:Bd E zKe zvb
 zkb:Bd E zXX zkb
 zjI:Bd E zVX zjI
 zyc:Bd E zVV zyc
 zji:Bd E zKf zji
 zzy:Bd E zxG zzy
 zzq:Bd E zzD zzq
 zzQ:Bd E zxc zzQ
 zxx:Bd E zYv zxx
 zv7:Bd E zkw zv7
 zye:Bd E zZ3 zye
 zkf:Bd E zW6 zkf
 zqK:Bd E zVN zqK
 zyj:Bd E zYw zyj
 zzu:Bd E zyy zzu
 zyq:Bd E zqX zyq
 zqD:Bd E yym zqD
 zYZ:Bd E yyj zYZ
 zka:Bd E zXR zka
 zxD:Bd E zYB zxD
 zq9:Bd E zVU zq9
 zZR:Bd E zQE zZR
 zkn:Bd E zZx zkn
 zzH:Bd E zxz zzH
 zzi:Bd E zzM zzi
 zyH:Bd E zZ2 zyH
 zyL:Bd E zYc zyL
 zZb:Bd E zVY zZb
 zxM:Bd E zXY zxM
 zXJ:Bd E zQM zXJ
 zxw:Bd E zj3 zxw
 zxS:Bd E zq0 zxS
 zxT:Bd E zq1 zxT
 zz1:Bd E zwY zz1
 zwt:Bd E zv1 zwt
 zZa:Bd E zVW zZa
 zvd:Bd E zKh zvd
 zkm:Bd E yw4 zkm
 zje:Bd E zW9 zje
 zyo:Bd E zkR zyo
 zz5:Bd E zwL zz5
 zzU:Bd E zyQ zzU
 zzo:Bd E zyI zzo
 zzx:Bd E zxm zzx
 zzj:Bd E zya zzj
 zyz:Bd E zW8 zyz
 zyv:Bd E zYx zyv
 zxC:Bd E zYy zxC
 zZH:Bd E yyo zZH
 zwa:Bd E zXW zwa
 zzK:Bd E zwz zzK
 zyO:Bd E zvX zyO
 zZl:Bd E zJf zZl
 zwx:Bd E zYg zwx
 zZm:Bd E zJg zZm
 zwj:Bd E zX2 zwj
 zyF:Bd E zjB zyF
 zjF:Bd E zVS zjF
 zjf:Bd E zKa zjf
 zk9:Bd E zXV zk9
 zx9:Bd E zXT zx9
 zyf:Bd E zvx zyf
 zjg:Bd E zKb zjg
 zzI:Bd E zkh zzI
 zwH:Bd E zVM zwH
 zzr:Bd E zzG zzr
 zxF:Bd E zXQ zxF
 zz4:Bd E zwK zz4
 zzB:Bd E zxH zzB
 zkk:Bd E zYA zkk
 zz2:Bd E zkz zz2
 zxf:Bd E zqW zxf
 zxh:Bd E zqZ zxh
 zxg:Bd E zqY zxg
 zVl:Bd E yyk zVl
 zyr:Bd E zkW zyr
 zkl:Bd E zYC zkl
 zz6:Bd E zwM zz6
 zWz:Bd E yyn zWz
 zzT:Bd E zZ7 zzT
 zyN:Bd E zzs zyN
 zzA:Bd E zy5 zzA
 zzE:Bd E zxr zzE
 zys:Bd E zYf zys
 zxL:Bd E zXU zxL
 zwr:Bd E zZ8 zwr
 zx8:Bd E zXS zx8
 zxK:Bd E zZ9 zxK
 zk7:Bd E zvl zk7
 zWy:Bd E yyl zWy
 zjh:Bd E zKc zjh
 zzW:Bd E zw5 zzW
 zyh:Bd E zkG zyh
end Go.Abs
end
