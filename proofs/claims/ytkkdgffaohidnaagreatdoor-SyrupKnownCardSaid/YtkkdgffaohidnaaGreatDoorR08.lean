/- Names for the numbers of functions and types. Conditions: none. (And 13 texts more.) -/
import Derived.Test.YtkkdgffaohidnaaGreatDoorR07
import Derived.Test.YtkkdgffaohidnaaGreatDoorR02
import Derived.Conc.SmallLaws
import Derived.Laws.LoneSync
set_option linter.unusedVariables false
set_option linter.unusedSimpArgs false
set_option linter.unusedSectionVars false

/- Names for the numbers of functions and types. Conditions: none. -/
namespace Go.aS
noncomputable abbrev prog:Program:=Proofs.Tryz.prog
abbrev av4:Nat:=21
noncomputable abbrev av5:Func:=Proofs.Tryz.f21
theorem awc:prog.funcs[av4]? =some av5:=Proofs.Tryz.func21
abbrev Eh:Nat:=25
noncomputable abbrev NT:Func:=Proofs.Tryz.f25
theorem Kz:prog.funcs[Eh]? =some NT:=Proofs.Tryz.func25
abbrev wY:Nat:=28
noncomputable abbrev NU:Func:=Proofs.Tryz.f28
theorem KA:prog.funcs[wY]? =some NU:=Proofs.Tryz.func28
abbrev Ei:Nat:=29
noncomputable abbrev NV:Func:=Proofs.Tryz.f29
theorem KD:prog.funcs[Ei]? =some NV:=Proofs.Tryz.func29
abbrev yh:Nat:=34
noncomputable abbrev Hw:Func:=Proofs.Tryz.f34
theorem FM:prog.funcs[yh]? =some Hw:=Proofs.Tryz.func34
abbrev akh:Nat:=39
noncomputable abbrev akJ:Func:=Proofs.Tryz.f39
theorem akB:prog.funcs[akh]? =some akJ:=Proofs.Tryz.func39
abbrev Em:Nat:=41
noncomputable abbrev NZ:Func:=Proofs.Tryz.f41
theorem KF:prog.funcs[Em]? =some NZ:=Proofs.Tryz.func41
abbrev BX:Nat:=43
noncomputable abbrev KG:Func:=Proofs.Tryz.f43
theorem Jv:prog.funcs[BX]? =some KG:=Proofs.Tryz.func43
abbrev abZ:Nat:=48
noncomputable abbrev aeh:Func:=Proofs.Tryz.f48
theorem adO:prog.funcs[abZ]? =some aeh:=Proofs.Tryz.func48
abbrev BZ:Nat:=51
noncomputable abbrev KH:Func:=Proofs.Tryz.f51
theorem Jw:prog.funcs[BZ]? =some KH:=Proofs.Tryz.func51
abbrev ahw:Nat:=57
noncomputable abbrev ahx:Func:=Proofs.Tryz.f57
theorem ahW:prog.funcs[ahw]? =some ahx:=Proofs.Tryz.func57
abbrev B_:Nat:=58
noncomputable abbrev KI:Func:=Proofs.Tryz.f58
theorem Jy:prog.funcs[B_]? =some KI:=Proofs.Tryz.func58
abbrev Cb:Nat:=62
noncomputable abbrev KJ:Func:=Proofs.Tryz.f62
theorem Jz:prog.funcs[Cb]? =some KJ:=Proofs.Tryz.func62
abbrev amb:Nat:=65
noncomputable abbrev amA:Func:=Proofs.Tryz.f65
theorem amr:prog.funcs[amb]? =some amA:=Proofs.Tryz.func65
abbrev ahn:Nat:=67
noncomputable abbrev aho:Func:=Proofs.Tryz.f67
theorem ahR:prog.funcs[ahn]? =some aho:=Proofs.Tryz.func67
abbrev ahi:Nat:=71
noncomputable abbrev ahj:Func:=Proofs.Tryz.f71
theorem ahO:prog.funcs[ahi]? =some ahj:=Proofs.Tryz.func71
abbrev atD:Nat:=77
noncomputable abbrev auE:Func:=Proofs.Tryz.f77
theorem aus:prog.funcs[atD]? =some auE:=Proofs.Tryz.func77
abbrev Uc:Nat:=83
noncomputable abbrev ZN:Func:=Proofs.Tryz.f83
theorem XE:prog.funcs[Uc]? =some ZN:=Proofs.Tryz.func83
abbrev Ud:Nat:=84
noncomputable abbrev ZO:Func:=Proofs.Tryz.f84
theorem XG:prog.funcs[Ud]? =some ZO:=Proofs.Tryz.func84
abbrev Ue:Nat:=85
noncomputable abbrev ZP:Func:=Proofs.Tryz.f85
theorem XH:prog.funcs[Ue]? =some ZP:=Proofs.Tryz.func85
abbrev Cc:Nat:=87
noncomputable abbrev KL:Func:=Proofs.Tryz.f87
theorem JC:prog.funcs[Cc]? =some KL:=Proofs.Tryz.func87
abbrev ou:Nat:=88
noncomputable abbrev yH:Func:=Proofs.Tryz.f88
theorem wZ:prog.funcs[ou]? =some yH:=Proofs.Tryz.func88
abbrev Eo:Nat:=89
noncomputable abbrev N8:Func:=Proofs.Tryz.f89
theorem KN:prog.funcs[Eo]? =some N8:=Proofs.Tryz.func89
abbrev pO:Nat:=91
noncomputable abbrev zN:Func:=Proofs.Tryz.f91
theorem yI:prog.funcs[pO]? =some zN:=Proofs.Tryz.func91
abbrev pR:Nat:=94
noncomputable abbrev zO:Func:=Proofs.Tryz.f94
theorem yJ:prog.funcs[pR]? =some zO:=Proofs.Tryz.func94
abbrev zQ:Nat:=95
noncomputable abbrev PV:Func:=Proofs.Tryz.f95
theorem Ep:prog.funcs[zQ]? =some PV:=Proofs.Tryz.func95
abbrev yj:Nat:=97
noncomputable abbrev HY:Func:=Proofs.Tryz.f97
theorem FP:prog.funcs[yj]? =some HY:=Proofs.Tryz.func97
abbrev pU:Nat:=98
noncomputable abbrev zS:Func:=Proofs.Tryz.f98
theorem yK:prog.funcs[pU]? =some zS:=Proofs.Tryz.func98
abbrev aaV:Nat:=99
noncomputable abbrev aa6:Func:=Proofs.Tryz.f99
theorem aa2:prog.funcs[aaV]? =some aa6:=Proofs.Tryz.func99
abbrev jO:Nat:=103
noncomputable abbrev Es:Func:=Proofs.Tryz.f103
theorem CV:prog.funcs[jO]? =some Es:=Proofs.Tryz.func103
abbrev fK:Nat:=104
noncomputable abbrev jW:Func:=Proofs.Tryz.f104
theorem oz:prog.funcs[fK]? =some jW:=Proofs.Tryz.func104
abbrev qA:Nat:=105
noncomputable abbrev H6:Func:=Proofs.Tryz.f105
theorem FQ:prog.funcs[qA]? =some H6:=Proofs.Tryz.func105
abbrev jK:Nat:=106
noncomputable abbrev yL:Func:=Proofs.Tryz.f106
theorem w_:prog.funcs[jK]? =some yL:=Proofs.Tryz.func106
abbrev t_:Nat:=107
noncomputable abbrev Et:Func:=Proofs.Tryz.f107
theorem CW:prog.funcs[t_]? =some Et:=Proofs.Tryz.func107
abbrev kR:Nat:=108
noncomputable abbrev Bq:Func:=Proofs.Tryz.f108
theorem zT:prog.funcs[kR]? =some Bq:=Proofs.Tryz.func108
abbrev pV:Nat:=109
noncomputable abbrev zU:Func:=Proofs.Tryz.f109
theorem yM:prog.funcs[pV]? =some zU:=Proofs.Tryz.func109
abbrev vN:Nat:=110
noncomputable abbrev FT:Func:=Proofs.Tryz.f110
theorem Eu:prog.funcs[vN]? =some FT:=Proofs.Tryz.func110
abbrev jL:Nat:=111
noncomputable abbrev oC:Func:=Proofs.Tryz.f111
theorem xg:prog.funcs[jL]? =some oC:=Proofs.Tryz.func111
abbrev mD:Nat:=112
noncomputable abbrev vO:Func:=Proofs.Tryz.f112
theorem uM:prog.funcs[mD]? =some vO:=Proofs.Tryz.func112
abbrev zV:Nat:=113
noncomputable abbrev JE:Func:=Proofs.Tryz.f113
theorem H7:prog.funcs[zV]? =some JE:=Proofs.Tryz.func113
abbrev uf:Nat:=114
noncomputable abbrev Ew:Func:=Proofs.Tryz.f114
theorem CX:prog.funcs[uf]? =some Ew:=Proofs.Tryz.func114
abbrev rW:Nat:=115
noncomputable abbrev CY:Func:=Proofs.Tryz.f115
theorem Bv:prog.funcs[rW]? =some CY:=Proofs.Tryz.func115
abbrev ag6:Nat:=117
noncomputable abbrev ag7:Func:=Proofs.Tryz.f117
theorem ahp:prog.funcs[ag6]? =some ag7:=Proofs.Tryz.func117
abbrev ug:Nat:=121
noncomputable abbrev Ey:Func:=Proofs.Tryz.f121
theorem CZ:prog.funcs[ug]? =some Ey:=Proofs.Tryz.func121
abbrev asZ:Nat:=122
noncomputable abbrev atu:Func:=Proofs.Tryz.f122
theorem atm:prog.funcs[asZ]? =some atu:=Proofs.Tryz.func122
abbrev vP:Nat:=123
noncomputable abbrev FU:Func:=Proofs.Tryz.f123
theorem Ez:prog.funcs[vP]? =some FU:=Proofs.Tryz.func123
abbrev qE:Nat:=124
noncomputable abbrev Bz:Func:=Proofs.Tryz.f124
theorem zW:prog.funcs[qE]? =some Bz:=Proofs.Tryz.func124
abbrev fZ:Nat:=128
noncomputable abbrev vS:Func:=Proofs.Tryz.f128
theorem uN:prog.funcs[fZ]? =some vS:=Proofs.Tryz.func128
abbrev uh:Nat:=129
noncomputable abbrev EC:Func:=Proofs.Tryz.f129
theorem C9:prog.funcs[uh]? =some EC:=Proofs.Tryz.func129
abbrev mF:Nat:=130
noncomputable abbrev vT:Func:=Proofs.Tryz.f130
theorem uO:prog.funcs[mF]? =some vT:=Proofs.Tryz.func130
abbrev qF:Nat:=131
noncomputable abbrev BA:Func:=Proofs.Tryz.f131
theorem zX:prog.funcs[qF]? =some BA:=Proofs.Tryz.func131
abbrev yt:Nat:=132
noncomputable abbrev H8:Func:=Proofs.Tryz.f132
theorem FV:prog.funcs[yt]? =some H8:=Proofs.Tryz.func132
abbrev oD:Nat:=133
noncomputable abbrev oG:Func:=Proofs.Tryz.f133
theorem xk:prog.funcs[oD]? =some oG:=Proofs.Tryz.func133
abbrev kX:Nat:=134
noncomputable abbrev kY:Func:=Proofs.Tryz.f134
theorem sQ:prog.funcs[kX]? =some kY:=Proofs.Tryz.func134
abbrev kG:Nat:=135
noncomputable abbrev kH:Func:=Proofs.Tryz.f135
theorem rX:prog.funcs[kG]? =some kH:=Proofs.Tryz.func135
abbrev GN:Nat:=136
noncomputable abbrev PW:Func:=Proofs.Tryz.f136
theorem N9:prog.funcs[GN]? =some PW:=Proofs.Tryz.func136
abbrev nM:Nat:=138
noncomputable abbrev xu:Func:=Proofs.Tryz.f138
theorem vU:prog.funcs[nM]? =some xu:=Proofs.Tryz.func138
abbrev qG:Nat:=139
noncomputable abbrev qH:Func:=Proofs.Tryz.f139
theorem zY:prog.funcs[qG]? =some qH:=Proofs.Tryz.func139
abbrev zZ:Nat:=140
noncomputable abbrev z_:Func:=Proofs.Tryz.f140
theorem H9:prog.funcs[zZ]? =some z_:=Proofs.Tryz.func140
abbrev Ci:Nat:=141
noncomputable abbrev Cj:Func:=Proofs.Tryz.f141
theorem JF:prog.funcs[Ci]? =some Cj:=Proofs.Tryz.func141
abbrev oH:Nat:=142
noncomputable abbrev oI:Func:=Proofs.Tryz.f142
theorem xw:prog.funcs[oH]? =some oI:=Proofs.Tryz.func142
abbrev kZ:Nat:=146
noncomputable abbrev uP:Func:=Proofs.Tryz.f146
theorem sS:prog.funcs[kZ]? =some uP:=Proofs.Tryz.func146
abbrev GU:Nat:=147
noncomputable abbrev GV:Func:=Proofs.Tryz.f147
theorem N_:prog.funcs[GU]? =some GV:=Proofs.Tryz.func147
abbrev kJ:Nat:=148
noncomputable abbrev sU:Func:=Proofs.Tryz.f148
theorem rY:prog.funcs[kJ]? =some sU:=Proofs.Tryz.func148
abbrev jX:Nat:=149
noncomputable abbrev rZ:Func:=Proofs.Tryz.f149
theorem qL:prog.funcs[jX]? =some rZ:=Proofs.Tryz.func149
abbrev eU:Nat:=151
noncomputable abbrev kK:Func:=Proofs.Tryz.f151
theorem r_:prog.funcs[eU]? =some kK:=Proofs.Tryz.func151
abbrev oJ:Nat:=152
noncomputable abbrev yN:Func:=Proofs.Tryz.f152
theorem xA:prog.funcs[oJ]? =some yN:=Proofs.Tryz.func152
abbrev iY:Nat:=153
noncomputable abbrev mG:Func:=Proofs.Tryz.f153
theorem lg:prog.funcs[iY]? =some mG:=Proofs.Tryz.func153
abbrev uj:Nat:=154
noncomputable abbrev ED:Func:=Proofs.Tryz.f154
theorem C_:prog.funcs[uj]? =some ED:=Proofs.Tryz.func154
abbrev Aa:Nat:=155
noncomputable abbrev Ac:Func:=Proofs.Tryz.f155
theorem H_:prog.funcs[Aa]? =some Ac:=Proofs.Tryz.func155
abbrev gV:Nat:=157
noncomputable abbrev lu:Func:=Proofs.Tryz.f157
theorem kS:prog.funcs[gV]? =some lu:=Proofs.Tryz.func157
abbrev EF:Nat:=158
noncomputable abbrev EG:Func:=Proofs.Tryz.f158
theorem KP:prog.funcs[EF]? =some EG:=Proofs.Tryz.func158
abbrev dS:Nat:=159
noncomputable abbrev ig:Func:=Proofs.Tryz.f159
theorem lC:prog.funcs[dS]? =some ig:=Proofs.Tryz.func159
abbrev su:Nat:=160
noncomputable abbrev Dc:Func:=Proofs.Tryz.f160
theorem BD:prog.funcs[su]? =some Dc:=Proofs.Tryz.func160
abbrev vV:Nat:=161
noncomputable abbrev FW:Func:=Proofs.Tryz.f161
theorem EH:prog.funcs[vV]? =some FW:=Proofs.Tryz.func161
abbrev atj:Nat:=162
noncomputable abbrev at7:Func:=Proofs.Tryz.f162
theorem atU:prog.funcs[atj]? =some at7:=Proofs.Tryz.func162
abbrev jA:Nat:=163
noncomputable abbrev Df:Func:=Proofs.Tryz.f163
theorem BF:prog.funcs[jA]? =some Df:=Proofs.Tryz.func163
abbrev jY:Nat:=164
noncomputable abbrev Ad:Func:=Proofs.Tryz.f164
theorem oK:prog.funcs[jY]? =some Ad:=Proofs.Tryz.func164
abbrev um:Nat:=165
noncomputable abbrev EI:Func:=Proofs.Tryz.f165
theorem Dh:prog.funcs[um]? =some EI:=Proofs.Tryz.func165
abbrev gU:Nat:=166
noncomputable abbrev xB:Func:=Proofs.Tryz.f166
theorem vW:prog.funcs[gU]? =some xB:=Proofs.Tryz.func166
abbrev iF:Nat:=169
noncomputable abbrev sV:Func:=Proofs.Tryz.f169
theorem sD:prog.funcs[iF]? =some sV:=Proofs.Tryz.func169
abbrev pW:Nat:=170
noncomputable abbrev pX:Func:=Proofs.Tryz.f170
theorem yO:prog.funcs[pW]? =some pX:=Proofs.Tryz.func170
abbrev lD:Nat:=171
noncomputable abbrev lF:Func:=Proofs.Tryz.f171
theorem sW:prog.funcs[lD]? =some lF:=Proofs.Tryz.func171
abbrev mJ:Nat:=172
noncomputable abbrev mM:Func:=Proofs.Tryz.f172
theorem uQ:prog.funcs[mJ]? =some mM:=Proofs.Tryz.func172
abbrev mO:Nat:=174
noncomputable abbrev mP:Func:=Proofs.Tryz.f174
theorem uS:prog.funcs[mO]? =some mP:=Proofs.Tryz.func174
abbrev lG:Nat:=175
noncomputable abbrev lH:Func:=Proofs.Tryz.f175
theorem sZ:prog.funcs[lG]? =some lH:=Proofs.Tryz.func175
abbrev kL:Nat:=176
noncomputable abbrev kM:Func:=Proofs.Tryz.f176
theorem sF:prog.funcs[kL]? =some kM:=Proofs.Tryz.func176
abbrev iD:Nat:=177
noncomputable abbrev iE:Func:=Proofs.Tryz.f177
theorem lV:prog.funcs[iD]? =some iE:=Proofs.Tryz.func177
abbrev aX:Nat:=178
noncomputable abbrev bn:Func:=Proofs.Tryz.f178
theorem nN:prog.funcs[aX]? =some bn:=Proofs.Tryz.func178
abbrev aW:Nat:=179
noncomputable abbrev nO:Func:=Proofs.Tryz.f179
theorem vX:prog.funcs[aW]? =some nO:=Proofs.Tryz.func179
abbrev f_:Nat:=180
noncomputable abbrev iZ:Func:=Proofs.Tryz.f180
theorem lI:prog.funcs[f_]? =some iZ:=Proofs.Tryz.func180
abbrev yu:Nat:=181
noncomputable abbrev Ia:Func:=Proofs.Tryz.f181
theorem FX:prog.funcs[yu]? =some Ia:=Proofs.Tryz.func181
abbrev iq:Nat:=182
noncomputable abbrev iw:Func:=Proofs.Tryz.f182
theorem lJ:prog.funcs[iq]? =some iw:=Proofs.Tryz.func182
abbrev mQ:Nat:=183
noncomputable abbrev vY:Func:=Proofs.Tryz.f183
theorem uT:prog.funcs[mQ]? =some vY:=Proofs.Tryz.func183
abbrev as4:Nat:=185
noncomputable abbrev atK:Func:=Proofs.Tryz.f185
theorem atB:prog.funcs[as4]? =some atK:=Proofs.Tryz.func185
abbrev iU:Nat:=186
noncomputable abbrev BG:Func:=Proofs.Tryz.f186
theorem Ae:prog.funcs[iU]? =some BG:=Proofs.Tryz.func186
abbrev nP:Nat:=187
noncomputable abbrev nR:Func:=Proofs.Tryz.f187
theorem vZ:prog.funcs[nP]? =some nR:=Proofs.Tryz.func187
abbrev oL:Nat:=188
noncomputable abbrev oM:Func:=Proofs.Tryz.f188
theorem xC:prog.funcs[oL]? =some oM:=Proofs.Tryz.func188
abbrev mV:Nat:=190
noncomputable abbrev jd:Func:=Proofs.Tryz.f190
theorem dP:prog.funcs[mV]? =some jd:=Proofs.Tryz.func190
abbrev dK:Nat:=191
noncomputable abbrev je:Func:=Proofs.Tryz.f191
theorem nZ:prog.funcs[dK]? =some je:=Proofs.Tryz.func191
abbrev dN:Nat:=193
noncomputable abbrev jm:Func:=Proofs.Tryz.f193
theorem oV:prog.funcs[dN]? =some jm:=Proofs.Tryz.func193
abbrev pY:Nat:=194
noncomputable abbrev Af:Func:=Proofs.Tryz.f194
theorem yP:prog.funcs[pY]? =some Af:=Proofs.Tryz.func194
abbrev lS:Nat:=209
noncomputable abbrev yw:Func:=Proofs.Tryz.f209
theorem FY:prog.funcs[lS]? =some yw:=Proofs.Tryz.func209
abbrev eu:Nat:=218
noncomputable abbrev iI:Func:=Proofs.Tryz.f218
theorem mY:prog.funcs[eu]? =some iI:=Proofs.Tryz.func218
abbrev iO:Nat:=220
noncomputable abbrev lK:Func:=Proofs.Tryz.f220
theorem tq:prog.funcs[iO]? =some lK:=Proofs.Tryz.func220
abbrev fD:Nat:=221
noncomputable abbrev jf:Func:=Proofs.Tryz.f221
theorem n_:prog.funcs[fD]? =some jf:=Proofs.Tryz.func221
abbrev dL:TypeId:=3
abbrev RS:TypeId:=4
abbrev nS:TypeId:=22
abbrev aoG:TypeId:=25
abbrev Uf:TypeId:=28
abbrev Ag:TypeId:=45
abbrev apa:TypeId:=64
abbrev XI:TypeId:=76
abbrev adi:TypeId:=84
abbrev bU:TypeId:=88
abbrev bG:TypeId:=90
abbrev jB:TypeId:=97
abbrev aV:TypeId:=99
abbrev qM:TypeId:=106
abbrev aQ:TypeId:=110
abbrev bF:TypeId:=112
abbrev aP:TypeId:=115
abbrev wo:TypeId:=138
abbrev fM:TypeId:=141
abbrev iJ:TypeId:=146
abbrev dw:TypeId:=149
abbrev xE:TypeId:=159
abbrev FZ:TypeId:=172
abbrev BH:TypeId:=175
abbrev qI:TypeId:=210
instance:MO prog:=⟨by kernel_rfl⟩
end Go.aS

/- The entries that package sync calls. Conditions: none. -/
namespace Go.aS
set_option maxRecDepth 100000
instance:TD prog FZ .unsafePointer:=⟨by kernel_rfl⟩

instance:XF prog zZ (fun _=>do Go.mark .disable;pure Extern.Race.none_):=⟨z_,H9,by kernel_rfl,by kernel_rfl,by kernel_rfl,by kernel_rfl⟩
instance:XF prog Ci (fun _=>do Go.mark .enable;pure Extern.Race.none_):=⟨Cj,JF,by kernel_rfl,by kernel_rfl,by kernel_rfl,by kernel_rfl⟩
instance:XF prog Aa (Extern.Race.marked .acquire):=⟨Ac,H_,by kernel_rfl,by kernel_rfl,by kernel_rfl,by kernel_rfl⟩
instance:XF prog qG (Extern.Race.marked .releaseMerge):=⟨qH,zY,by kernel_rfl,by kernel_rfl,by kernel_rfl,by kernel_rfl⟩
instance:XF prog GU (Extern.Race.marked .read):=⟨GV,N_,by kernel_rfl,by kernel_rfl,by kernel_rfl,by kernel_rfl⟩
instance:XF prog EF (Extern.Race.marked .write):=⟨EG,KP,by kernel_rfl,by kernel_rfl,by kernel_rfl,by kernel_rfl⟩
instance:XF prog iD (Extern.Atomic.casT (.int .i32)):=⟨iE,lV,by kernel_rfl,by kernel_rfl,by kernel_rfl,by kernel_rfl⟩
instance:XF prog aW (Extern.Atomic.update (Op.intArith .add) .i32 true):=⟨nO,vX,by kernel_rfl,by kernel_rfl,by kernel_rfl,by kernel_rfl⟩
instance:XF prog iq (Extern.Atomic.casT (.int .u64)):=⟨iw,lJ,by kernel_rfl,by kernel_rfl,by kernel_rfl,by kernel_rfl⟩
instance:XF prog mO (Extern.Atomic.update (Op.intArith .add) .u64 true):=⟨mP,uS,by kernel_rfl,by kernel_rfl,by kernel_rfl,by kernel_rfl⟩
instance:XF prog lG (Extern.Atomic.loadT (.int .u64)):=⟨lH,sZ,by kernel_rfl,by kernel_rfl,by kernel_rfl,by kernel_rfl⟩
instance:XF prog kL Extern.Atomic.storeT:=⟨kM,sF,by kernel_rfl,by kernel_rfl,by kernel_rfl,by kernel_rfl⟩
instance:XF prog dK Extern.Sync.semacquire:=⟨je,nZ,by kernel_rfl,by kernel_rfl,by kernel_rfl,by kernel_rfl⟩
instance:XF prog dS Extern.Sync.semacquire:=⟨ig,lC,by kernel_rfl,by kernel_rfl,by kernel_rfl,by kernel_rfl⟩
instance:XF prog eU Extern.Sync.semrelease:=⟨kK,r_,by kernel_rfl,by kernel_rfl,by kernel_rfl,by kernel_rfl⟩
instance:XF prog dN Extern.Sync.semrelease:=⟨jm,oV,by kernel_rfl,by kernel_rfl,by kernel_rfl,by kernel_rfl⟩
instance:XF prog nP Extern.Sync.canSpin:=⟨nR,vZ,by kernel_rfl,by kernel_rfl,by kernel_rfl,by kernel_rfl⟩
instance:XF prog oL Extern.Sync.nothing:=⟨oM,xC,by kernel_rfl,by kernel_rfl,by kernel_rfl,by kernel_rfl⟩
instance:XF prog mV Extern.OsHooks.nano:=⟨jd,dP,by kernel_rfl,by kernel_rfl,by kernel_rfl,by kernel_rfl⟩
instance:XF prog oH (fun _=>pure (.bool false)):=⟨oI,xw,by kernel_rfl,by kernel_rfl,by kernel_rfl,by kernel_rfl⟩
theorem nT:jd.norace=true:=by kernel_rfl
theorem JG:bn.norace=true:=by kernel_rfl
theorem F5:iZ.norace=true:=by kernel_rfl
theorem Oa:mG.norace=true:=by kernel_rfl
end Go.aS

/- Short forms for walks through a library. Conditions: none; over any program. -/
namespace Go.aS
section
variable{x:Lx}{Q:kD x.π}{ρ:Env}{ds:List Deferred}{s:x.π.S}{ops:Array Oper}{i d:Nat}{rest:List Nat}{op:Op}{ty:TypeId}{pos:String}{bK:Array Edge}{g:Option (Nat×Bool)}{v:Value}{D:Option Tmp}
theorem lq(ho:cO ops.toList i=some ⟨some d,op,ty,pos,bK,g⟩)(hy:Pv x ρ ⟨some d,op,ty,pos,bK,g⟩ v)(H:LO x ops rest Q ((d,v)::ρ) ds s)(hw:want ops ρ ⟨some d,op,ty,pos,bK,g⟩:=by first | exact wn | exact ak rfl rfl rfl)(hd:Nat.blt d x.n=true:=by rfl)(hn:cu op=true:=by rfl):LO x ops (i::rest) Q ρ ds s:=
 LO.q (o:=⟨some d,op,ty,pos,bK,g⟩) (aU ho) hw hd (gI hn) hy.cv H
theorem aI(H:Q .normal ρ ds s):LO x ops [] Q ρ ds s:=LO.nil H

section
variable{f:FuncId}{e:Array Value→Sem Value}{args:List Operand}{ts:Array TypeId}{vs:List Value}
theorem lx(a:x.π.A)(ho:cO ops.toList i=some ⟨some d,.call ⟨.value (.func f),args.toArray,ts⟩,ty,pos,bK,g⟩)[XF x.P f e](hv:evs ρ args=some vs)(hcan:x.π.can a s)(hnb:∀y,¬x.π.blk a y)
  (ok:∀w y,x.π.at_ w y→x.π.rel a s y→∃v,Yields x.P f (e vs.toArray) w v (x.π.wld a y w) (x.π.evs a y)∧∀s',x.π.WO a s y s'→LO x ops rest Q ((d,v)::ρ) ds s')
  (fr:x.π.free a→∃v evs,(∀ev∈evs,Event.mute ev=true)∧∀w,Yields x.P f (e vs.toArray) w v w evs)
  (hw:want ops ρ ⟨some d,.call ⟨.value (.func f),args.toArray,ts⟩,ty,pos,bK,g⟩:=by first | exact wn | exact ak rfl rfl rfl) (hd:Nat.blt d x.n=true:=by rfl):LO x ops (i::rest) Q ρ ds s:=
 LO.ext (o:=⟨some d,.call ⟨.value (.func f),args.toArray,ts⟩,ty,pos,bK,g⟩) a (aU ho) rfl hv hw hd hcan (fun w y _ _ h=>absurd h (hnb y)) (fun w y h1 h2 _=>ok w y h1 h2) fr
theorem lx0(ho:cO ops.toList i=some ⟨some d,.call ⟨.value (.func f),args.toArray,ts⟩,ty,pos,bK,g⟩)[XF x.P f e](hv:evs ρ args=some vs)(hy:∀w,Yields x.P f (e vs.toArray) w v w #[])(H:LO x ops rest Q ((d,v)::ρ) ds s)
  (hw:want ops ρ ⟨some d,.call ⟨.value (.func f),args.toArray,ts⟩,ty,pos,bK,g⟩:=by first | exact wn | exact ak rfl rfl rfl) (hd:Nat.blt d x.n=true:=by rfl):LO x ops (i::rest) Q ρ ds s:=
 LO.q (o:=⟨some d,.call ⟨.value (.func f),args.toArray,ts⟩,ty,pos,bK,g⟩) (aU ho) hw hd (fun c h=>by cases h) (fun ee he=>by
  have key:∀w,(callFunc f vs.toArray).runT x.P w #[]=(.ok (.value v) w, #[⟨.mark (.extern f),false,true⟩]++ #[]):=fun w=>by
   obtain⟨fn,h1,h2,h3,h4,h5⟩:=(inferInstance:XF x.P f e).out
   have h4':Extern.findNext fn=none:=by simpa using h4
   obtain⟨r1,r2,r3⟩:=hy w
   rw[Sem.runT_eq,run_callFunc_extern h1 h2 h3 h4' h5,r1,Conc.events_callFunc_extern h1 h2 h3 h4' h5]
   simp only[List.push_toArray,List.nil_append]
   rw[r2]
   rfl
  exact⟨_,Conc.seen_entry _ _ _ (fun x h=>by simp at h),fun w=>by rw[rV he rfl hv];exact key w⟩) H
theorem lc(ho:cO ops.toList i=some ⟨some d,.call ⟨.value (.func f),args.toArray,ts⟩,ty,pos,bK,g⟩)[FB x.P f](hv:evs ρ args=some vs)(H:iK x.P x.m x.π f vs.toArray s fun v s'=>LO x ops rest Q ((d,v)::ρ) ds s')
  (hw:want ops ρ ⟨some d,.call ⟨.value (.func f),args.toArray,ts⟩,ty,pos,bK,g⟩:=by first | exact wn | exact ak rfl rfl rfl) (hd:Nat.blt d x.n=true:=by rfl):LO x ops (i::rest) Q ρ ds s:=
 LO.call (o:=⟨some d,.call ⟨.value (.func f),args.toArray,ts⟩,ty,pos,bK,g⟩) (aU ho) hw hd (fun c h=>by cases h) (fun ee he=>⟨#[],rfl,fun w=>by
  obtain⟨fn,h1,h2,h3⟩:=FB.out (inferInstance:FB x.P f)
  rw[rV he rfl hv]
  simp only[callFunc,program,bind_eq,au,Sem.bind,Sem.runT,h1,h2,h3,Bool.false_eq_true,if_false]⟩) H
end
end
end Go.aS

/- The wrappers of atomics in package sync. Conditions: none; over the given program. -/
namespace Go.aS
set_option maxRecDepth 100000
set_option maxHeartbeats 4000000
theorem Iq{m:Bool}{γ:GP}{b:Nat}(a:LA){s:LS}(hcan:eX γ.toGrp a s)(hnb:∀y,¬jk a y)(hnf:¬(a= .Fa∨a= .en)){R:Value→LS→Prop}
  (ok:∀w y,uF γ.toGrp w y→rG a s y→∃n,w.cell? ⟨b,0,none⟩=some (.int .u64 n)∧gJ γ.toGrp a y w=w∧bT γ.toGrp a y= #[uD ⟨b,0,none⟩]∧∀s',oP a s y s'→R (.int .u64 n) s'):
  iK prog m (aJ γ.toGrp) kJ #[.pointer (some ⟨b,0,none⟩)] s R:=by
 refine iK.aG rY rfl (by show 1≤7;decide) [(0,.pointer (some ⟨b,0,none⟩))] ⟨rfl,trivial⟩ ?_
 refine L.seq (L.region rfl ?_)
 refine lq rfl (aH rfl rfl) (aI ?_)
 refine L.seq (L.region rfl ?_)
 refine lq rfl (aj rfl rfl)<|lq rfl (aK rfl rfl)<|lq rfl (aF rfl rfl) ?_
 refine lx (a:LA) rfl rfl hcan hnb (fun w y h1 h2=>?_) (fun h=>absurd h hnf)
 obtain⟨n,e1,e2,e3,e4⟩:=ok w y h1 h2
 refine⟨.int .u64 n,?_,fun s' hn=>?_⟩
 ·show Yields prog _ _ w _ (gJ γ.toGrp a y w) (bT γ.toGrp a y)
  rw[e2,e3]
  exact ZM e1
 ·refine lq rfl (aH rfl rfl) (aI ?_)
  refine L.ret ?_
  exact bM (vs:=[_]) (e4 s' hn)

theorem XJ{m:Bool}{γ:GP}{b:Nat}{dl:Int}(a:LA){s:LS}(hcan:eX γ.toGrp a s)(hnb:∀y,¬jk a y)(hnf:¬(a= .Fa∨a= .en)){R:Value→LS→Prop}
  (ok:∀w y,uF γ.toGrp w y→rG a s y→∃n,w.cell? ⟨b,0,none⟩=some (.int .u64 n)∧w.frozen? ⟨b,0,none⟩=false∧gJ γ.toGrp a y w=w.setCell ⟨b,0,none⟩ (.int .u64 (IntKind.u64.wrap (n+dl)))∧bT γ.toGrp a y= #[uD ⟨b,0,none⟩,yT ⟨b,0,none⟩]∧∀s',oP a s y s'→R (.int .u64 (IntKind.u64.wrap (n+dl))) s'):
  iK prog m (aJ γ.toGrp) kZ #[.pointer (some ⟨b,0,none⟩),.int .u64 dl] s R:=by
 refine iK.aG sS rfl (by show 2≤10;decide) [(0,.pointer (some ⟨b,0,none⟩)),(1,.int .u64 dl)] ⟨rfl,rfl,trivial⟩ ?_
 refine L.seq (L.region rfl ?_)
 refine lq rfl (aH rfl rfl) (aI ?_)
 refine L.seq (L.region rfl ?_)
 refine lq rfl (aj rfl rfl)<|lq rfl (aK rfl rfl)<|lq rfl (aF rfl rfl)<|lq rfl (aj rfl rfl) ?_
 refine lx (a:LA) rfl rfl hcan hnb (fun w y h1 h2=>?_) (fun h=>absurd h hnf)
 obtain⟨n,e1,e1',e2,e3,e4⟩:=ok w y h1 h2
 refine⟨.int .u64 (IntKind.u64.wrap (n+dl)),?_,fun s' hn=>?_⟩
 ·show Yields prog _ _ w _ (gJ γ.toGrp a y w) (bT γ.toGrp a y)
  rw[e2,e3]
  exact nK e1 e1'
 ·refine lq rfl (aH rfl rfl) (aI ?_)
  refine L.ret ?_
  exact bM (vs:=[_]) (e4 s' hn)

theorem PX{m:Bool}{γ:GP}{b:Nat}{n:Int}(a:LA){s:LS}(hcan:eX γ.toGrp a s)(hnb:∀y,¬jk a y)(hnf:¬(a= .Fa∨a= .en)){R:Value→LS→Prop}
  (ok:∀w y,uF γ.toGrp w y→rG a s y→∃u,w.cell? ⟨b,0,none⟩=some u∧w.frozen? ⟨b,0,none⟩=false∧gJ γ.toGrp a y w=w.setCell ⟨b,0,none⟩ (.int .u64 n)∧bT γ.toGrp a y= #[yT ⟨b,0,none⟩]∧∀s',oP a s y s'→R (.tuple #[]) s'):
  iK prog m (aJ γ.toGrp) jX #[.pointer (some ⟨b,0,none⟩),.int .u64 n] s R:=by
 refine iK.aG qL rfl (by show 2≤9;decide) [(0,.pointer (some ⟨b,0,none⟩)),(1,.int .u64 n)] ⟨rfl,rfl,trivial⟩ ?_
 refine L.region rfl<|lq rfl (aj rfl rfl)<|lq rfl (aK rfl rfl)<|lq rfl (aF rfl rfl)<|lq rfl (aj rfl rfl) ?_
 refine lx (a:LA) rfl rfl hcan hnb (fun w y h1 h2=>?_) (fun h=>absurd h hnf)
 obtain⟨u,e1,e1',e2,e3,e4⟩:=ok w y h1 h2
 refine⟨.tuple #[],?_,fun s' hn=>aI ?_⟩
 ·show Yields prog _ _ w _ (gJ γ.toGrp a y w) (bT γ.toGrp a y)
  rw[e2,e3]
  exact XD e1 e1'
 ·exact bM (vs:=[]) (e4 s' hn)

theorem abL{m:Bool}{γ:GP}{b:Nat}{o n:Int}(a:LA){s:LS}(hcan:eX γ.toGrp a s)(hnb:∀y,¬jk a y)(hnf:¬(a= .Fa∨a= .en)){R:Value→LS→Prop}
  (
   ok:∀w y,uF γ.toGrp w y→rG a s y→∃v,w.cell? ⟨b,0,none⟩=some (.int .u64 v)∧w.frozen? ⟨b,0,none⟩=false∧
   ((v=o∧gJ γ.toGrp a y w=w.setCell ⟨b,0,none⟩ (.int .u64 n)∧bT γ.toGrp a y= #[uD ⟨b,0,none⟩,yT ⟨b,0,none⟩]∧∀s',oP a s y s'→R (.bool true) s')∨(¬v=o∧gJ γ.toGrp a y w=w∧bT γ.toGrp a y= #[uD ⟨b,0,none⟩]∧∀s',oP a s y s'→R (.bool false) s'))):
  iK prog m (aJ γ.toGrp) gV #[.pointer (some ⟨b,0,none⟩),.int .u64 o,.int .u64 n] s R:=by
 refine iK.aG kS rfl (by show 3≤13;decide) [(0,.pointer (some ⟨b,0,none⟩)),(1,.int .u64 o),(2,.int .u64 n)] ⟨rfl,rfl,rfl,trivial⟩ ?_
 refine L.seq (L.region rfl ?_)
 refine lq rfl (aH rfl rfl) (aI ?_)
 refine L.seq (L.region rfl ?_)
 refine lq rfl (aj rfl rfl)<|lq rfl (aK rfl rfl)<|lq rfl (aF rfl rfl)<|lq rfl (aj rfl rfl)<|lq rfl (aj rfl rfl) ?_
 refine lx (a:LA) rfl rfl hcan hnb (fun w y h1 h2=>?_) (fun h=>absurd h hnf)
 obtain⟨v,e1,e1',⟨rfl,e2,e3,e4⟩ | ⟨hne,e2,e3,e4⟩⟩:=ok w y h1 h2
 ·refine⟨.bool true,?_,fun s' hn=>?_⟩
  ·show Yields prog _ _ w _ (gJ γ.toGrp a y w) (bT γ.toGrp a y)
   rw[e2,e3]
   exact XC e1 e1'
  ·refine lq rfl (aH rfl rfl) (aI ?_)
   refine L.ret ?_
   exact bM (vs:=[_]) (e4 s' hn)
 ·refine⟨.bool false,?_,fun s' hn=>?_⟩
  ·show Yields prog _ _ w _ (gJ γ.toGrp a y w) (bT γ.toGrp a y)
   rw[e2,e3]
   exact Ub e1 e1' hne
  ·refine lq rfl (aH rfl rfl) (aI ?_)
   refine L.ret ?_
   exact bM (vs:=[_]) (e4 s' hn)
end Go.aS

/- A pointer's conversion in walks through a library. Conditions: none; over any program. -/
namespace Go.aS
section
variable{x:Lx}{Q:kD x.π}{ρ:Env}{ds:List Deferred}{s:x.π.S}{ops:Array Oper}{i d:Nat}{rest:List Nat}{ty:TypeId}{pos:String}{bK:Array Edge}{g:Option (Nat×Bool)}
theorem RU{src dst t:TypeId}{y:Operand}{ad:Addr}(a:x.π.A)(ho:cO ops.toList i=some ⟨some d,.convert src dst y,ty,pos,bK,g⟩)(hy:ev ρ y=some (.pointer (some ad)))[hs:TD x.P src (.pointer t)][hd':TD x.P dst .unsafePointer](hsz:(x.P.info? t).map (fun i=>decide (i.size=0))=some false)
  (hcan:x.π.can a s) (hnb:∀y,¬x.π.blk a y) (hnw:¬x.π.wak a) (hnf:¬x.π.free a) (ok:∀w y,x.π.at_ w y→x.π.rel a s y→(∃v,w.cell? ad=some v)∧x.π.wld a y w=w∧x.π.evs a y= #[]∧∀s',x.π.WO a s y s'→LO x ops rest Q ((d,.pointer (some ad))::ρ) ds s')
  (hw:want ops ρ ⟨some d,.convert src dst y,ty,pos,bK,g⟩:=by first | exact wn | exact ak rfl rfl rfl) (hd:Nat.blt d x.n=true:=by rfl):LO x ops (i::rest) Q ρ ds s:=by
 refine LO.act a (o:=⟨some d,.convert src dst y,ty,pos,bK,g⟩) (aU ho) hw hd (fun c h=>by cases h) hcan (fun ee he w z q1 q2 q3=>absurd q3 (hnb z)) (fun ee he w z q1 q2 _=>?_) (fun h=>absurd h hnw) (fun h=>absurd h hnf)
 obtain⟨⟨v,hv⟩,e1,e2,e3⟩:=ok w z q1 q2
 refine⟨.pointer (some ad), #[],?_,by rw[e2];rfl,e3⟩
 rw[e1]
 have hx:execOp ee ⟨some d,.convert src dst y,ty,pos,bK,g⟩=(convert src dst (.pointer (some ad))).bind fun v=>.pure (Next.value v):=by
  simp only[execOp,he y _ hy];rfl
 rw[hx,Sem.runT_eq]
 have r1:=run_convert_to_unsafe hs.out hd'.out hsz hv
 have r2:=Conc.events_convert_to_unsafe hs.out hd'.out hsz hv #[]
 show(Sem.run x.P ((convert src dst (.pointer (some ad))) >>=fun v=>pure (Next.value v)) w,Sem.events x.P ((convert src dst (.pointer (some ad))) >>=fun v=>pure (Next.value v)) w #[])=_
 simp[r1,r2,Sem.events_bind,Result.andThen,Result.evThen]
end
end Go.aS

/- Plain loads in text that the race detector does not see. Conditions: none; over any program. -/
namespace Go.aS
theorem seen_plain{P:Program}{fn:FuncId}{ad:Addr}(hq:(P.funcs[fn]?).any (·.norace)=true):seen P fn #[⟨.cell ad,false,false⟩]= #[]:=by
 rw[Conc.seen_def];simp[Conc.seenStep,hq]
section
variable{x:Lx}{Q:kD x.π}{ρ:Env}{ds:List Deferred}{s:x.π.S}{ops:Array Oper}{i d:Nat}{rest:List Nat}{ty:TypeId}{pos:String}{bK:Array Edge}{g:Option (Nat×Bool)}
theorem ll{t:TypeId}{y:Operand}{ad:Addr}[j:SC x.P t](a:x.π.A)(ho:cO ops.toList i=some ⟨some d,.load t y,ty,pos,bK,g⟩)(hy:ev ρ y=some (.pointer (some ad)))(hq:(x.P.funcs[x.fn]?).any (·.norace)=true)
  (hcan:x.π.can a s) (hnb:∀y,¬x.π.blk a y) (hnw:¬x.π.wak a) (hnf:¬x.π.free a) (ok:∀w y,x.π.at_ w y→x.π.rel a s y→∃v,w.cell? ad=some v∧x.π.wld a y w=w∧x.π.evs a y= #[]∧∀s',x.π.WO a s y s'→LO x ops rest Q ((d,v)::ρ) ds s')
  (hw:want ops ρ ⟨some d,.load t y,ty,pos,bK,g⟩:=by first | exact wn | exact ak rfl rfl rfl) (hd:Nat.blt d x.n=true:=by rfl):LO x ops (i::rest) Q ρ ds s:=by
 refine LO.act a (o:=⟨some d,.load t y,ty,pos,bK,g⟩) (aU ho) hw hd (fun c h=>by cases h) hcan (fun ee he w z q1 q2 q3=>absurd q3 (hnb z)) (fun ee he w z q1 q2 _=>?_) (fun h=>absurd h hnw) (fun h=>absurd h hnf)
 obtain⟨v,hv,e1,e2,e3⟩:=ok w z q1 q2
 refine⟨v, #[⟨.cell ad,false,false⟩],?_,by rw[e2];exact seen_plain hq,e3⟩
 rw[e1]
 obtain⟨dd,hg,n1,n2⟩:=j.out
 simp only[execOp,he y _ hy,Instr.loadAt,Instr.sureAddr,loadVar,isAgg,underlying,program,load,bind_eq,au,bind_assoc,bind_pure,Sem.bind,Sem.runT,hg]
 cases dd <;>first | exact absurd rfl (n1 _) | exact absurd rfl (n2 _ _) | (simp only[Sem.bind,Sem.runT,hv,Bool.false_eq_true,if_false];rfl)
end
end Go.aS

/- The clock and the question whether to spin, in walks through a library. Conditions: none; over any program. -/
namespace Go.aS
section
variable{P:Program}{f:FuncId}{w:World}{n:Int}{k:IntKind}
theorem Vf(h4:4≤n):Yields P f (Extern.Sync.canSpin #[.int k n]) w (.bool false) w #[]:=
 ⟨by rw[Conc.canSpin_eq,if_pos h4];rfl,by rw[Conc.canSpin_eq,if_pos h4];rfl,by simp⟩
theorem ZQ(h4:¬n≥4):∃b:Bool,Yields P f (Extern.Sync.canSpin #[.int k n]) w (.bool b) w.asked #[]:=
 ⟨w.spins,by rw[Conc.canSpin_eq,if_neg h4];rfl,by rw[Conc.canSpin_eq,if_neg h4];rfl,by simp⟩
theorem sG{args:Array Value}:Yields P f (Extern.Sync.nothing args) w (.tuple #[]) w #[]:=⟨by simp[Extern.Sync.nothing,Extern.Sync.none_],by simp[Extern.Sync.nothing],by simp⟩
theorem GX{args:Array Value}:Yields P f ((fun _=>pure (.bool false):Array Value→Sem Value) args) w (.bool false) w #[]:=⟨by simp,by simp,by simp⟩
end
section
variable{x:Lx}{Q:kD x.π}{ρ:Env}{ds:List Deferred}{s:x.π.S}{ops:Array Oper}{i d:Nat}{rest:List Nat}{ty:TypeId}{pos:String}{bK:Array Edge}{g:Option (Nat×Bool)}{f:FuncId}{args:List Operand}{ts:Array TypeId}{vs:List Value}
theorem Ug(a:x.π.A)(ho:cO ops.toList i=some ⟨some d,.call ⟨.value (.func f),args.toArray,ts⟩,ty,pos,bK,g⟩)[XF x.P f Extern.OsHooks.nano](hq:(x.P.funcs[f]?).any (·.norace)=true)(hv:evs ρ args=some vs)(hcan:x.π.can a s)(hnb:∀y,¬x.π.blk a y)(hnw:¬x.π.wak a)(hnf:¬x.π.free a)
  (ok:∀w y,x.π.at_ w y→x.π.rel a s y→x.π.wld a y w=w.later∧x.π.evs a y= #[]∧∀s',x.π.WO a s y s'→∀t:Int,LO x ops rest Q ((d,.int .i64 t)::ρ) ds s')
  (hw:want ops ρ ⟨some d,.call ⟨.value (.func f),args.toArray,ts⟩,ty,pos,bK,g⟩:=by first | exact wn | exact ak rfl rfl rfl) (hd:Nat.blt d x.n=true:=by rfl):LO x ops (i::rest) Q ρ ds s:=by
 refine LO.act a (o:=⟨some d,.call ⟨.value (.func f),args.toArray,ts⟩,ty,pos,bK,g⟩) (aU ho) hw hd (fun c h=>by cases h) hcan (fun ee he w z q1 q2 q3=>absurd q3 (hnb z)) (fun ee he w z q1 q2 _=>?_) (fun h=>absurd h hnw) (fun h=>absurd h hnf)
 obtain⟨e1,e2,e3⟩:=ok w z q1 q2
 obtain⟨fn,h1,h2,h3,h4,h5⟩:=(inferInstance:XF x.P f Extern.OsHooks.nano).out
 have h4':Extern.findNext fn=none:=by simpa using h4
 refine⟨.int .i64 ((w.os.mono+w.tick:Nat):Int), #[⟨.mark (.extern f),false,true⟩]++ #[⟨.output,true,false⟩],?_,by rw[e2];exact Conc.seen_entry_out _ _ hq,fun s' hn=>e3 s' hn _⟩
 rw[e1,rV he rfl hv,Sem.runT_eq,run_callFunc_extern h1 h2 h3 h4' h5,Conc.events_callFunc_extern h1 h2 h3 h4' h5]
 rfl
end
end Go.aS

/- Disable and Enable, Acquire and the like, in walks over the protocol of a mutex and a wait group. Conditions: none; over any program. -/
namespace Go.aS
section
variable{P:Program}{m:Bool}{γ:Grp}{fn:FuncId}{n:Nat}{Q:kD (aJ γ)}{ρ:Env}{ds:List Deferred}{s s':LS}{ops:Array Oper}{i d:Nat}{rest:List Nat}{ty:TypeId}{pos:String}{bK:Array Edge}{g:Option (Nat×Bool)}{f:FuncId}
theorem ZR(ho:cO ops.toList i=some ⟨some d,.call ⟨.value (.func f), #[], #[]⟩,ty,pos,bK,g⟩)[XF P f (fun _=>do Go.mark .disable;pure Extern.Race.none_)](hcan:eX γ .Fa s)(hs:∀x s'',oP .Fa s x s''→s''=s')(H:LO ⟨P,m,aJ γ,fn,n⟩ ops rest Q ((d,.tuple #[])::ρ) ds s')
  (hw:want ops ρ ⟨some d,.call ⟨.value (.func f), #[], #[]⟩,ty,pos,bK,g⟩:=by first | exact wn | exact ak rfl rfl rfl) (hd:Nat.blt d n=true:=by rfl):LO ⟨P,m,aJ γ,fn,n⟩ ops (i::rest) Q ρ ds s:=
 lx (x:=⟨P,m,aJ γ,fn,n⟩) (args:=[]) (ts:= #[]) (vs:=[]) (LA.Fa:LA) ho rfl hcan (fun y h=>h) (fun w y _ _=>⟨.tuple #[],pK (args:= #[]) (m:=.disable) (by simp),fun s'' hn=>by rw[hs y s'' hn];exact H⟩)
  (fun _=>⟨.tuple #[], #[qo .disable],fun ev h=>by simp at h;subst h;rfl,fun w=>pK (args:= #[]) (m:=.disable) (by simp)⟩) hw hd
theorem F6(ho:cO ops.toList i=some ⟨some d,.call ⟨.value (.func f), #[], #[]⟩,ty,pos,bK,g⟩)[XF P f (fun _=>do Go.mark .enable;pure Extern.Race.none_)](hcan:eX γ .en s)(hs:∀x s'',oP .en s x s''→s''=s')(H:LO ⟨P,m,aJ γ,fn,n⟩ ops rest Q ((d,.tuple #[])::ρ) ds s')
  (hw:want ops ρ ⟨some d,.call ⟨.value (.func f), #[], #[]⟩,ty,pos,bK,g⟩:=by first | exact wn | exact ak rfl rfl rfl) (hd:Nat.blt d n=true:=by rfl):LO ⟨P,m,aJ γ,fn,n⟩ ops (i::rest) Q ρ ds s:=
 lx (x:=⟨P,m,aJ γ,fn,n⟩) (args:=[]) (ts:= #[]) (vs:=[]) (LA.en:LA) ho rfl hcan (fun y h=>h) (fun w y _ _=>⟨.tuple #[],pK (args:= #[]) (m:=.enable) (by simp),fun s'' hn=>by rw[hs y s'' hn];exact H⟩)
  (fun _=>⟨.tuple #[], #[qo .enable],fun ev h=>by simp at h;subst h;rfl,fun w=>pK (args:= #[]) (m:=.enable) (by simp)⟩) hw hd
end
end Go.aS

/- Deferred calls in walks through a library. Conditions: none; over any program. -/
namespace Go.aS
section
variable{x:Lx}{Q:kD x.π}{ρ:Env}{ds:List Deferred}{s:x.π.S}{ops:Array Oper}{i:Nat}{rest:List Nat}
theorem LO.defer{o:Oper}{c:Call}{d:Deferred}(ho:ops[i]? =some o)(hop:o.op= .defer c)(hw:want ops ρ o)(hd:o.dst=none)(hr:∀e,Kn1 ρ e→resolve e c o.type= .pure d)(H:LO x ops rest Q ρ (d::ds) s):LO x ops (i::rest) Q ρ ds s:=by
  intro b k cs E tmps h1 h2 h3 h4 h5 hc
  have hk':(b.kind==CallKind.early)=false:=by simpa using h3
  refine .idle rfl (fun w=>Pz (x:=⟨x.P,sd x.m,x.fn,x.n,none,⟨fun _=>none,fun _=>False⟩⟩) ho hop (hw.wanted h4) h2 hk' (hr _ fun _ _ hx=>h4.ev hx)) ?_
  have hf:=eY (b:=b) (t:=tmps) (ds:=d::ds) (k:=k) (cs:=cs) (rest:=rest) ho undef
  rw[hf,hd]
  exact H b k cs E tmps h1 h2 h3 h4 h5 hc
end
theorem aa3{x:Lx}{ρ:Env}{o:Oper}{t t':TypeId}{y z:Operand}{k k':IntKind}{a b:Int}(ho:o.op= .binOp .shl t y z t')(hy:ev ρ y=some (.int k a))(hz:ev ρ z=some (.int k' b))(hb:0≤b):Pv x ρ o (.int k (k.wrap (a*2 ^ (min b.toNat k.bits)))):=
  zK ho hy hz (by
                     have:¬b<0:=by omega
                     simp only[binOp,Op.shift,if_neg this];rfl)
theorem Pv.eq{x:Lx}{ρ:Env}{o:Oper}{v u:Value}(h:Pv x ρ o v)(e:v=u):Pv x ρ o u:=e▸h
end Go.aS

/- More short forms for walks through a library. Conditions: none; over any program. -/
namespace Go.aS
section
variable{π:jM}{Q:kD π}{K:Env→List Deferred→π.S→Prop}{ρ:Env}{ds:List Deferred}{s:π.S}
theorem aB(H:K ρ ds s):UU K Q .normal ρ ds s:=H
theorem qB{id:Nat}(H:Q (.exit id) ρ ds s):UU K Q (.exit id) ρ ds s:=H
theorem BI(H:Q .ret ρ ds s):UU K Q .ret ρ ds s:=H
theorem PY{id:Nat}(H:Q .normal ρ ds s):Nj id Q .normal ρ ds s:=H
theorem KQ{id:Nat}(H:Q .ret ρ ds s):Nj id Q .ret ρ ds s:=H
theorem Di{id id':Nat}(H:Q .normal ρ ds s)(h:Nat.beq id' id=true:=by rfl):Nj id Q (.exit id') ρ ds s:=by simp only[Nj,h,cond_true];exact H
theorem PZ{id id':Nat}(H:Q (.exit id') ρ ds s)(h:Nat.beq id' id=false:=by rfl):Nj id Q (.exit id') ρ ds s:=by simp only[Nj,h,cond_false];exact H
end
section
variable{x:Lx}{Q:kD x.π}{K:Env→List Deferred→x.π.S→Prop}{ρ:Env}{ds:List Deferred}{s:x.π.S}{ops:Array Oper}{i d:Nat}{rest:List Nat}{op:Op}{ty:TypeId}{pos:String}{bK:Array Edge}
theorem L.dW{c:Operand}{y z:Code}(H:L x y Q ρ ds s)(h:ev ρ c=some (.bool true):=by rfl):L x (.cond c y z) Q ρ ds s:=L.cond h (fun _=>H) (fun e=>by cases e)
theorem L.bZ{c:Operand}{y z:Code}(H:L x z Q ρ ds s)(h:ev ρ c=some (.bool false):=by rfl):L x (.cond c y z) Q ρ ds s:=L.cond h (fun e=>by cases e) (fun _=>H)

theorem LO.known{d':Nat}{u v:Bool}(hv:look ρ d'=some (.bool v))(hu:v=u)(H:LO x ops (i::rest) Q ((d',.bool u)::ρ) ds s):LO x ops (i::rest) Q ρ ds s:=by
 intro b k cs E tmps h1 h2 h3 h4 h5 hc
 refine H b k cs E tmps h1 h2 h3 (fun t y hy=>?_) h5 hc
 unfold look at hy
 cases e:Nat.beq t d' with
 | true=>
  rw[e]at hy
  simp only[cond_true,Option.some.injEq]at hy
  subst hy
  rw[Nat.eq_of_beq_eq_true e,←hu]
  exact h4 d' _ hv
 | false=>rw[e]at hy;exact h4 t y hy
theorem LO.ask{j d':Nat}{w:Bool}{p:Prop}[Decidable p]{D:Option Tmp}(ht:p→LO x ops (i::rest) Q ((d',.bool true)::ρ) ds s)(hf:¬p→LO x ops (i::rest) Q ((d',.bool false)::ρ) ds s)(ho:cO ops.toList i=some ⟨D,op,ty,pos,bK,some (j,w)⟩:=by rfl)(hj:(cO ops.toList j).bind (·.dst)=some d':=by rfl)(hv:look ρ d'=some (.bool (decide p)):=by rfl):LO x ops (i::rest) Q ρ ds s:=by
 by_cases hp:p
 ·exact LO.known hv (by simp[hp]) (ht hp)
 ·exact LO.known hv (by simp[hp]) (hf hp)
theorem LO.RV{j d':Nat}{w v:Bool}{D:Option Tmp}(ht:v=true→LO x ops (i::rest) Q ((d',.bool true)::ρ) ds s)(hf:v=false→LO x ops (i::rest) Q ((d',.bool false)::ρ) ds s)(ho:cO ops.toList i=some ⟨D,op,ty,pos,bK,some (j,w)⟩:=by rfl)(hj:(cO ops.toList j).bind (·.dst)=some d':=by rfl)(hv:look ρ d'=some (.bool v):=by rfl):LO x ops (i::rest) Q ρ ds s:=by
 cases v with
 | true=>exact LO.known hv rfl (ht rfl)
 | false=>exact LO.known hv rfl (hf rfl)
theorem gY{j dj:Nat}{w v:Bool}(H:LO x ops rest Q ((d,undef)::ρ) ds s)(ho:cO ops.toList i=some ⟨some d,op,ty,pos,bK,some (j,w)⟩:=by rfl)(hj:(cO ops.toList j).bind (·.dst)=some dj:=by rfl)(hv:look ρ dj=some (.bool v):=by rfl)(hne:(v==w)=false:=by rfl)(hd:Nat.blt d x.n=true:=by rfl):LO x ops (i::rest) Q ρ ds s:=
 LO.unwanted (o:=⟨some d,op,ty,pos,bK,some (j,w)⟩) (aU ho) rfl (by rw[AO]at hj;simpa using hj) hv hne hd H
end
end Go.aS

/- Numbers of the mutex's and the group's words; leaving a function with one deferred Enable; an entry that may be held up. Conditions: none; over any program. -/
namespace Go.aS
set_option maxRecDepth 100000
theorem wrap32{n:Int}(h0: -2147483648≤n)(h1:n≤2147483647):IntKind.i32.wrap n=n:=IntWalk.i32_in n ⟨h0,h1⟩
theorem aa4{n:Int}(h0:0≤n)(h1:n≤18446744073709551615):IntKind.u64.wrap n=n:=IntWalk.u64_in n ⟨h0,h1⟩
theorem Ir{n:Int}(h0:0≤n)(h1:n≤4294967295):IntKind.u32.wrap n=n:=IntWalk.u32_in n ⟨h0,h1⟩

theorem abM{n:Int}(h0:0≤n)(h1:n≤18446744073709551615):IntKind.u64.wrap (n+18446744073709551616)=n:=by
 simp[IntKind.wrap,IntKind.bits,IntKind.signed];omega
def wgT(v w:Nat):Bool:=let n:Int:=((v*4294967296+w:Nat):Int)
 (bits .and .u64 n 2147483648==0)&&(bits .and .u64 n 2147483647==(w:Int))&&(IntKind.i32.wrap (n.fdiv (2 ^ (min (32:Int).toNat IntKind.u64.bits)))==(v:Int))&&(IntKind.u32.wrap w==(w:Int))
theorem ZT:((List.range 67).all fun v=>(List.range 2).all fun w=>wgT v w)=true:=by kernel_rfl
theorem Zb{v w:Nat}(hv:v<67)(hw:w<2):bits .and .u64 ((v*4294967296+w:Nat):Int) 2147483648=0∧bits .and .u64 ((v*4294967296+w:Nat):Int) 2147483647=(w:Int)∧
  IntKind.i32.wrap (((v*4294967296+w:Nat):Int).fdiv (2 ^ (min (32:Int).toNat IntKind.u64.bits)))=(v:Int)∧IntKind.u32.wrap (w:Int)=(w:Int):=by
 have h:=ZT
 rw[List.all_eq_true]at h
 have h:=h v (List.mem_range.2 hv)
 rw[List.all_eq_true]at h
 have h:=h w (List.mem_range.2 hw)
 simp only[wgT,Bool.and_eq_true,beq_iff_eq]at h
 exact⟨h.1.1.1,h.1.1.2,h.1.2,h.2⟩
def Vg(t:Nat):Bool:=let n:Int:=(t:Int)
 (bits .and .i32 n 5==((t % 2+4*(t / 4 % 2):Nat):Int))&&(bits .and .i32 n 1==((t % 2:Nat):Int))&&(bits .and .i32 n 2==((2*(t / 2 % 2):Nat):Int))&&(bits .and .i32 n 4==((4*(t / 4 % 2):Nat):Int))&&
 (bits .and .i32 n 3==((t % 4:Nat):Int))&&(bits .and .i32 n 7==((t % 8:Nat):Int))&&(bits .or .i32 n 1==((t+(1-t % 2):Nat):Int))&&(bits .or .i32 n 2==((t+2*(1-t / 2 % 2):Nat):Int))&&(bits .or .i32 n 4==((t+4*(1-t / 4 % 2):Nat):Int))&&
 (bits .andNot .i32 n 2==((t-2*(t / 2 % 2):Nat):Int))&&(n.fdiv (2 ^ (min (3:Int).toNat IntKind.i32.bits))==((t / 8:Nat):Int))
theorem ZU:((List.range 600).all Vg)=true:=by kernel_rfl
section
variable{t:Nat}(ht:t<600)
include ht
theorem sH:Vg t=true:=by
 have h:=ZU
 rw[List.all_eq_true]at h
 exact h t (List.mem_range.2 ht)
theorem mu5:bits .and .i32 (t:Int) 5=((t % 2+4*(t / 4 % 2):Nat):Int):=by have h:=sH ht;simp only[Vg,Bool.and_eq_true,beq_iff_eq]at h;exact h.1.1.1.1.1.1.1.1.1.1
theorem mu1:bits .and .i32 (t:Int) 1=((t % 2:Nat):Int):=by have h:=sH ht;simp only[Vg,Bool.and_eq_true,beq_iff_eq]at h;exact h.1.1.1.1.1.1.1.1.1.2
theorem mu2:bits .and .i32 (t:Int) 2=((2*(t / 2 % 2):Nat):Int):=by have h:=sH ht;simp only[Vg,Bool.and_eq_true,beq_iff_eq]at h;exact h.1.1.1.1.1.1.1.1.2
theorem mu4:bits .and .i32 (t:Int) 4=((4*(t / 4 % 2):Nat):Int):=by have h:=sH ht;simp only[Vg,Bool.and_eq_true,beq_iff_eq]at h;exact h.1.1.1.1.1.1.1.2
theorem mu3:bits .and .i32 (t:Int) 3=((t % 4:Nat):Int):=by have h:=sH ht;simp only[Vg,Bool.and_eq_true,beq_iff_eq]at h;exact h.1.1.1.1.1.1.2
theorem mu7:bits .and .i32 (t:Int) 7=((t % 8:Nat):Int):=by have h:=sH ht;simp only[Vg,Bool.and_eq_true,beq_iff_eq]at h;exact h.1.1.1.1.1.2
theorem aeU:bits .or .i32 (t:Int) 1=((t+(1-t % 2):Nat):Int):=by have h:=sH ht;simp only[Vg,Bool.and_eq_true,beq_iff_eq]at h;exact h.1.1.1.1.2
theorem adl:bits .or .i32 (t:Int) 2=((t+2*(1-t / 2 % 2):Nat):Int):=by have h:=sH ht;simp only[Vg,Bool.and_eq_true,beq_iff_eq]at h;exact h.1.1.1.2
theorem adn:bits .or .i32 (t:Int) 4=((t+4*(1-t / 4 % 2):Nat):Int):=by have h:=sH ht;simp only[Vg,Bool.and_eq_true,beq_iff_eq]at h;exact h.1.1.2
theorem ado:bits .andNot .i32 (t:Int) 2=((t-2*(t / 2 % 2):Nat):Int):=by have h:=sH ht;simp only[Vg,Bool.and_eq_true,beq_iff_eq]at h;exact h.1.2
theorem Vh:(t:Int).fdiv (2 ^ (min (3:Int).toNat IntKind.i32.bits))=((t / 8:Nat):Int):=by have h:=sH ht;simp only[Vg,Bool.and_eq_true,beq_iff_eq]at h;exact h.2
end
theorem LV{G:Grp}{w:World}{y:XS}(h:uF G w y):w.cell? ⟨G.Wg,0,none⟩=some (.int .u64 (y.g.st:Int))∧w.frozen? ⟨G.Wg,0,none⟩=false∧w.cell? ⟨G.Wg,1,none⟩=some (.int .u32 (y.g.ws:Int))∧w.frozen? ⟨G.Wg,1,none⟩=false:=cells_at h.2
theorem Ib{G:Grp}{w:World}{y:XS}(hm:G.mu≠none)(h:uF G w y):w.cell? ⟨G.Mu,0,none⟩=some (.int .i32 (y.m.st:Int))∧w.frozen? ⟨G.Mu,0,none⟩=false∧w.cell? ⟨G.Mu,1,none⟩=some (.int .u32 (y.m.ms:Int))∧w.frozen? ⟨G.Mu,1,none⟩=false:=by
 obtain⟨q,hq⟩:=Option.ne_none_iff_exists'.1 hm
 have:=cells_at (h.1 q hq)
 have e:G.Mu=q.1:=by unfold Grp.Mu;rw[hq]
 rw[e];exact this

section
variable{P:Program}{m:Bool}{γ:Grp}{fn:FuncId}
abbrev enD(f:FuncId):Deferred:={target:=.fn (.func f) #[],args:= #[]}
theorem OZ.en{f:FuncId}[i:XF P f (fun _=>do Go.mark .enable;pure Extern.Race.none_)]{ds:List Deferred}{s s':LS}{K:LS→Prop}(hcan:eX γ .en s)(hs:∀x s'',oP .en s x s''→s''=s')(H:OZ P m (aJ γ) fn ds s' K):OZ P m (aJ γ) fn (enD f::ds) s K:=by
 refine⟨fun r h=>(by cases h),.inl ⟨(LA.en:LA),hcan,fun y h=>h,(fun h=>by rcases h with h | h <;>cases h),fun w y _ _=>?_,fun _=>?_,fun y s'' _ hn=>by rw[hs y s'' hn];exact H⟩⟩
 ·obtain⟨r1,r2,r3⟩:=pK (P:=P) (f:=f) (w:=w) (args:= #[]) (m:=.enable) (by simp)
  obtain⟨es,e1,e2⟩:=T_ (f:=f) (e:=fun _=>do Go.mark .enable;pure Extern.Race.none_) (args:= #[]) r1 r2 r3
  exact⟨_,es,e1,e2 fn⟩
 ·obtain⟨fn',h1,h2,h3,h4,h5⟩:=i.out
  have h4':Extern.findNext fn'=none:=by simpa using h4
  refine⟨.tuple #[], #[⟨.mark (.extern f),false,true⟩]++ #[qo .enable],fun ev hev=>?_,fun w=>?_⟩
  ·obtain⟨_,_,r3⟩:=pK (P:=P) (f:=f) (w:=(default:World)) (args:= #[]) (m:=.enable) (by simp)
   rw[Conc.seen_entry _ _ _ r3]at hev
   simp at hev
   subst hev;rfl
  ·obtain⟨r1,r2,r3⟩:=pK (P:=P) (f:=f) (w:=w) (args:= #[]) (m:=.enable) (by simp)
   show(callFunc f #[]).runT P w #[]=_
   rw[Sem.runT_eq,run_callFunc_extern h1 h2 h3 h4' h5,r1,Conc.events_callFunc_extern h1 h2 h3 h4' h5]
   simp only[List.push_toArray,List.nil_append]
   rw[r2]
   rfl
theorem mW{f:FuncId}{gn:Func}{R:Value→LS→Prop}{e:Exit}{ρ:Env}{s s':LS}[i:XF P f (fun _=>do Go.mark .enable;pure Extern.Race.none_)](hcan:eX γ .en s)(hs:∀x s'',oP .en s x s''→s''=s')(hR:R (.tuple #[]) s')(he:e= .ret∨e= .normal:=by first | exact .inl rfl | exact .inr rfl)(hv:Rf ρ gn.results.toList=some []:=by rfl):
  Nk P m (aJ γ) fn gn R e ρ [enD f] s:=
 have:=bM (P:=P) (m:=m) (π:=aJ γ) (f:=fn) (fn:=gn) (R:=fun v s=>v= .tuple #[]∧s=s') (e:=e) (ρ:=ρ) (s:=s') (vs:=[]) ⟨rfl,rfl⟩ he hv
 ⟨he,OZ.en hcan hs (by
  obtain⟨_,v,h1,rfl,_⟩:=this
  exact⟨_,h1,hR⟩)⟩
end
section
variable{x:Lx}{Q:kD x.π}{ρ:Env}{ds:List Deferred}{s:x.π.S}{ops:Array Oper}{i d:Nat}{rest:List Nat}{ty:TypeId}{pos:String}{bK:Array Edge}{g:Option (Nat×Bool)}{f:FuncId}{e:Array Value→Sem Value}{args:List Operand}{ts:Array TypeId}{vs:List Value}
theorem lxb(a:x.π.A)(ho:cO ops.toList i=some ⟨some d,.call ⟨.value (.func f),args.toArray,ts⟩,ty,pos,bK,g⟩)[XF x.P f e](hv:evs ρ args=some vs)(hcan:x.π.can a s)
  (hb:∀w y,x.π.at_ w y→x.π.rel a s y→x.π.blk a y→(e vs.toArray).run x.P w= .halt .blocked w)
  (ok:∀w y,x.π.at_ w y→x.π.rel a s y→¬x.π.blk a y→∃v,Yields x.P f (e vs.toArray) w v (x.π.wld a y w) (x.π.evs a y)∧∀s',x.π.WO a s y s'→LO x ops rest Q ((d,v)::ρ) ds s')
  (fr:¬x.π.free a)
  (hw:want ops ρ ⟨some d,.call ⟨.value (.func f),args.toArray,ts⟩,ty,pos,bK,g⟩:=by first | exact wn | exact ak rfl rfl rfl) (hd:Nat.blt d x.n=true:=by rfl):LO x ops (i::rest) Q ρ ds s:=
 LO.ext (o:=⟨some d,.call ⟨.value (.func f),args.toArray,ts⟩,ty,pos,bK,g⟩) a (aU ho) rfl hv hw hd hcan hb ok fun h=>absurd h fr
theorem iy{op:Op}{v u:Value}(ho:cO ops.toList i=some ⟨some d,op,ty,pos,bK,g⟩)(hy:Pv x ρ ⟨some d,op,ty,pos,bK,g⟩ v)(e:v=u)(H:LO x ops rest Q ((d,u)::ρ) ds s)(hw:want ops ρ ⟨some d,op,ty,pos,bK,g⟩:=by first | exact wn | exact ak rfl rfl rfl)(hd:Nat.blt d x.n=true:=by rfl)(hn:cu op=true:=by rfl):LO x ops (i::rest) Q ρ ds s:=
 lq ho (e▸hy) H hw hd hn
theorem adp{fv:FuncId}(ho:cO ops.toList i=some ⟨none,.defer ⟨.value (.func fv), #[], #[]⟩,ty,pos,bK,none⟩)(H:LO x ops rest Q ρ (enD fv::ds) s):LO x ops (i::rest) Q ρ ds s:=by
 refine LO.defer (o:=⟨none,.defer ⟨.value (.func fv), #[], #[]⟩,ty,pos,bK,none⟩) (aU ho) rfl trivial rfl (fun e he=>?_) H
 have e3:e (.func fv)= .func (.func fv) #[] #[]:=he _ _ rfl
 simp only[resolve,List.map_toArray,e3,au]
 rfl
end
theorem L.qc{P:Program}{m:Bool}{γ:Grp}{fn:FuncId}{n:Nat}{c:Code}{Q:kD (aJ γ)}{ρ:Env}{ds:List Deferred}{s s':LS}(e:s=s')(H:L ⟨P,m,aJ γ,fn,n⟩ c Q ρ ds s'):L ⟨P,m,aJ γ,fn,n⟩ c Q ρ ds s:=e▸H
theorem iK.mono{P:Program}{m:Bool}{π:jM}{f:FuncId}{args:Array Value}{s:π.S}{R R':Value→π.S→Prop}(H:iK P m π f args s R)(hr:∀v s,R v s→R' v s):iK P m π f args s R':=
 fun c cs E hc=>H c cs E fun v s' r=>hc v s' (hr _ _ r)
end Go.aS

/- The wait group's Add of one, as the starter calls it; Done, as a worker does. Conditions: none; over the given program. -/
namespace Go.aS
set_option maxRecDepth 100000
set_option maxHeartbeats 4000000
theorem ZV{γ:GP}:iK prog true (aJ γ.toGrp) fK #[.pointer (some ⟨γ.Wg,0,none⟩),.int .i64 1] (.wg (.add 0) 0) fun v s=>v= .tuple #[]∧s= .wg (.add 1) 0:=by
 refine iK.aG oz rfl (by show 2≤117;decide) [(0,.pointer (some ⟨γ.Wg,0,none⟩)),(1,.int .i64 1)] ⟨rfl,rfl,trivial⟩ ?_
 refine L.seq ?_
 refine L.dW ?_
 refine L.seq<|L.seq<|L.region rfl<|lq rfl (aj rfl rfl) ?_
 refine iy (u:=.bool false) rfl (PL rfl rfl rfl) rfl ?_
 refine aI<|aB ?_
 refine L.bZ ?_
 refine L.skip<|aB<|L.seq<|L.region rfl ?_
 refine ZR (s':=.wg (.add 0) 1) rfl ⟨by simp,by simp⟩ (fun x s'' h=>h) ?_
 refine aI<|aB<|L.region rfl ?_
 refine adp rfl ?_
 refine aI<|aB<|L.seq<|L.region rfl<|lq rfl (aH rfl rfl)<|aI<|aB<|L.seq<|L.seq<|L.region rfl ?_
 refine lx0 (vs:=[]) rfl rfl (fun w=>GX (args:= #[])) ?_
 refine aI<|aB ?_
 refine L.bZ ?_
 refine L.skip<|aB<|L.seq<|L.region rfl<|lq rfl (aj rfl rfl)<|lq rfl (aK rfl rfl)<|lq rfl (aF rfl rfl)<|lq rfl (aj rfl rfl) ?_
 refine iy (u:=.int .u64 1) rfl (wX rfl rfl) (by kernel_rfl) ?_
 refine iy (u:=.int .u64 4294967296) rfl (aa3 rfl rfl rfl (by decide)) (by kernel_rfl) ?_
 refine lc (vs:=[_,_]) rfl rfl (XJ (m:=true) (γ:=γ) (s:=.wg (.add 0) 1) (b:=γ.Wg) (dl:=4294967296) (LA.O0:LA) ⟨by omega,rfl⟩ (fun y h=>h) (by simp) (fun w y h1 h2=>?_)) (hd:=rfl)
 obtain⟨c1,c2,-,-⟩:=LV h1
 obtain⟨v0,-,-,z1,-⟩:WF (.add 0) y:=h2
 have e:IntKind.u64.wrap ((y.g.st:Int)+4294967296)=(((y.g.v+1)*4294967296+0:Nat):Int):=by
  rw[aa4 (by omega) (by simp only[DV.st];omega)];simp only[DV.st,z1];omega
 refine⟨_,c1,c2,?_,rfl,fun s' hn=>?_⟩
 ·show World.setCell _ _ (.int .u64 ((y.g.st+4294967296:Nat):Int))=_
  rw[e,show y.g.st+4294967296=(y.g.v+1)*4294967296+0 by simp only[DV.st,z1];omega];rfl
 obtain rfl:s'= .wg (.add 1) 1:=hn
 rw[e]
 have hv1:1≤y.g.v+1:=by omega
 have hv2:y.g.v+1≤65:=by omega
 generalize y.g.v+1=v at hv1 hv2⊢
 clear e c1 c2 h1 v0
 refine lq rfl (aH rfl rfl)<|aI<|aB<|L.seq<|L.seq<|L.region rfl<|lq rfl (aj rfl rfl) ?_
 refine iy (u:=.int .u64 0) rfl (jI rfl rfl rfl) (congrArg (Value.int .u64) (Zb (v:=v) (w:=0) (by omega) (by omega)).1) ?_
 refine iy (u:=.bool false) rfl (jH rfl rfl rfl) rfl ?_
 refine lq rfl (aj rfl rfl) ?_
 refine gY ?_
 refine gY ?_
 refine lq rfl (dh rfl rfl rfl)<|aI<|aB ?_
 refine L.bZ ?_
 refine L.skip<|aB<|L.seq<|L.region rfl<|lq rfl (aj rfl rfl) ?_
 refine lq rfl (Eb rfl rfl rfl (by decide)) ?_
 refine iy (u:=.int .i32 (v:Int)) rfl (wX rfl rfl) (congrArg (Value.int .i32) (Zb (v:=v) (w:=0) (by omega) (by omega)).2.2.1) ?_
 refine lq rfl (aH rfl rfl)<|aI<|aB<|L.seq<|L.region rfl<|lq rfl (aj rfl rfl) ?_
 refine iy (u:=.int .u64 0) rfl (jI rfl rfl rfl) (congrArg (Value.int .u64) (Zb (v:=v) (w:=0) (by omega) (by omega)).2.1) ?_
 refine iy (u:=.int .u32 0) rfl (wX rfl rfl) (by kernel_rfl) ?_
 refine lq rfl (aH rfl rfl)<|aI<|aB<|L.seq<|L.seq<|L.region rfl<|lq rfl (aj rfl rfl)<|lq rfl (aj rfl rfl) ?_
 refine iy (u:=.bool true) rfl (Ea rfl rfl rfl) rfl ?_
 refine lq rfl (eP rfl rfl rfl)<|lq rfl (aj rfl rfl)<|lq rfl (aj rfl rfl)<|lq rfl (aj rfl rfl) ?_
 refine iy (u:=.int .i32 1) rfl (wX rfl rfl) (by kernel_rfl) ?_
 refine lq rfl (kF rfl rfl rfl) ?_
 refine lq rfl (eP rfl rfl rfl)<|aI<|aB ?_
 refine L.bC rfl (fun c67=>?_) (fun c67=>?_)
 ·refine L.region rfl<|lq rfl (aj rfl rfl)<|lq rfl (aK rfl rfl)<|lq rfl (aF rfl rfl) ?_
  refine RU (LA.non:LA) rfl rfl (by kernel_rfl) (by simp[eX,aJ]) (fun y h=>h) (by simp[rH,aJ]) (by simp[aJ]) (fun w y h1 h2=>?_)
  refine⟨⟨_,(LV h1).2.2.1⟩,rfl,rfl,fun s' hn=>?_⟩
  obtain rfl:s'= .wg (.add 1) 1:=hn
  refine lx (vs:=[_]) (LA.LG:LA) rfl rfl ⟨1,rfl⟩ (fun y h=>h) (fun w y h1 h2=>⟨_,fB (mk:=.read) (by simp) rfl,fun s' hn=>?_⟩) (by simp[aJ])
  obtain rfl:s'= .wg (.add 1) 1:=hn
  refine aI<|aB<|L.seq<|L.seq<|L.region rfl<|lq rfl (aj rfl rfl) ?_
  refine iy (u:=.bool false) rfl (PL rfl rfl rfl) (congrArg Value.bool (decide_eq_false (by omega))) ?_
  refine aI<|aB ?_
  refine L.bZ ?_
  refine L.skip<|aB<|L.seq<|L.seq<|L.region rfl<|lq rfl (aj rfl rfl) ?_
  refine iy (u:=.bool false) rfl (jH rfl rfl rfl) rfl ?_
  refine lq rfl (aj rfl rfl) ?_
  refine gY ?_
  refine gY ?_
  refine lq rfl (dh rfl rfl rfl)<|lq rfl (aj rfl rfl) ?_
  refine gY ?_
  refine gY ?_
  refine gY ?_
  refine gY ?_
  refine lq rfl (dh rfl rfl rfl)<|aI<|aB ?_
  refine L.bZ ?_
  refine L.skip<|aB<|L.seq<|L.seq<|L.region rfl<|lq rfl (aj rfl rfl) ?_
  refine iy (u:=.bool true) rfl (Ea rfl rfl rfl) (congrArg Value.bool (decide_eq_true (by omega))) ?_
  refine lq rfl (aj rfl rfl) ?_
  refine gY ?_
  refine gY ?_
  refine lq rfl (eP rfl rfl rfl)<|aI<|aB ?_
  refine L.dW ?_
  refine L.ret<|BI ?_
  exact mW (s':=.wg (.add 1) 0) (show eX γ.toGrp .en (.wg (.add 1) 1)from Nat.one_pos) (fun x s'' h=>h) ⟨rfl,rfl⟩
 ·refine L.skip<|aB<|L.seq<|L.seq<|L.region rfl<|lq rfl (aj rfl rfl) ?_
  refine iy (u:=.bool false) rfl (PL rfl rfl rfl) (congrArg Value.bool (decide_eq_false (by omega))) ?_
  refine aI<|aB ?_
  refine L.bZ ?_
  refine L.skip<|aB<|L.seq<|L.seq<|L.region rfl<|lq rfl (aj rfl rfl) ?_
  refine iy (u:=.bool false) rfl (jH rfl rfl rfl) rfl ?_
  refine lq rfl (aj rfl rfl) ?_
  refine gY ?_
  refine gY ?_
  refine lq rfl (dh rfl rfl rfl)<|lq rfl (aj rfl rfl) ?_
  refine gY ?_
  refine gY ?_
  refine gY ?_
  refine gY ?_
  refine lq rfl (dh rfl rfl rfl)<|aI<|aB ?_
  refine L.bZ ?_
  refine L.skip<|aB<|L.seq<|L.seq<|L.region rfl<|lq rfl (aj rfl rfl) ?_
  refine iy (u:=.bool true) rfl (Ea rfl rfl rfl) (congrArg Value.bool (decide_eq_true (by omega))) ?_
  refine lq rfl (aj rfl rfl) ?_
  refine gY ?_
  refine gY ?_
  refine lq rfl (eP rfl rfl rfl)<|aI<|aB ?_
  refine L.dW ?_
  refine L.ret<|BI ?_
  exact mW (s':=.wg (.add 1) 0) (show eX γ.toGrp .en (.wg (.add 1) 1)from Nat.one_pos) (fun x s'' h=>h) ⟨rfl,rfl⟩

theorem ZW{γ:GP}:iK prog false (aJ γ.toGrp) fK #[.pointer (some ⟨γ.Wg,0,none⟩),.int .i64 (-1)] (.dn .live 0) fun v s=>v= .tuple #[]∧s= .dn .gone 0:=by
 refine iK.aG oz rfl (by show 2≤117;decide) [(0,.pointer (some ⟨γ.Wg,0,none⟩)),(1,.int .i64 (-1))] ⟨rfl,rfl,trivial⟩ ?_
 refine L.seq ?_
 refine L.dW ?_
 refine L.seq<|L.seq<|L.region rfl<|lq rfl (aj rfl rfl) ?_
 refine iy (u:=.bool true) rfl (PL rfl rfl rfl) rfl ?_
 refine aI<|aB ?_
 refine L.dW ?_
 refine L.region rfl<|lq rfl (aj rfl rfl) ?_
 refine RU (LA.non:LA) rfl rfl (by kernel_rfl) (by simp[eX,aJ]) (fun y h=>h) (by simp[rH,aJ]) (by simp[aJ]) (fun w y h1 h2=>?_)
 refine⟨⟨_,(LV h1).1⟩,rfl,rfl,fun s' hn=>?_⟩
 obtain rfl:s'= .dn .live 0:=hn
 refine lx (vs:=[_]) (LA.Nl:LA) rfl rfl ⟨rfl,rfl⟩ (fun y h=>h) (fun w y h1 h2=>⟨_,fB (mk:=.releaseMerge) (by simp) rfl,fun s' hn=>?_⟩) (by simp[aJ])
 obtain rfl:s'= .dn .s1 0:=hn
 refine aI<|aB<|L.seq<|L.region rfl ?_
 refine ZR (s':=.dn .s1 1) rfl trivial (fun x s'' h=>h) ?_
 refine aI<|aB<|L.region rfl ?_
 refine adp rfl ?_
 refine aI<|aB<|L.seq<|L.region rfl<|lq rfl (aH rfl rfl)<|aI<|aB<|L.seq<|L.seq<|L.region rfl ?_
 refine lx0 (vs:=[]) rfl rfl (fun w=>GX (args:= #[])) ?_
 refine aI<|aB ?_
 refine L.bZ ?_
 refine L.skip<|aB<|L.seq<|L.region rfl<|lq rfl (aj rfl rfl)<|lq rfl (aK rfl rfl)<|lq rfl (aF rfl rfl)<|lq rfl (aj rfl rfl) ?_
 refine iy (u:=.int .u64 18446744073709551615) rfl (wX rfl rfl) (by kernel_rfl) ?_
 refine iy (u:=.int .u64 18446744069414584320) rfl (aa3 rfl rfl rfl (by decide)) (by kernel_rfl) ?_
 refine lc (vs:=[_,_]) rfl rfl (XJ (m:=false) (γ:=γ) (s:=.dn .s1 1) (b:=γ.Wg) (dl:=18446744069414584320) (LA.wsub:LA) ⟨by omega,rfl⟩ (fun y h=>h) (by simp) (fun w y h1 h2=>?_)) (hd:=rfl)
 obtain⟨c1,c2,-,-⟩:=LV h1
 obtain⟨v0,w0,-,z1⟩:DF .s1 y:=h2
 have z1:0<y.g.v:=z1
 obtain⟨v,hv⟩:∃v,y.g.v=v+1:=⟨y.g.v-1,by omega⟩
 have e:IntKind.u64.wrap ((y.g.st:Int)+18446744069414584320)=((v*4294967296+y.g.w:Nat):Int):=by
  rw[show(y.g.st:Int)+18446744069414584320=((v*4294967296+y.g.w:Nat):Int)+18446744073709551616 by simp only[DV.st,hv];omega]
  exact abM (by omega) (by omega)
 refine⟨_,c1,c2,?_,rfl,fun s' hn=>?_⟩
 ·show World.setCell _ _ (.int .u64 ((y.g.st-4294967296:Nat):Int))=_
  rw[e,show y.g.st-4294967296=v*4294967296+y.g.w by simp only[DV.st,hv];omega];rfl
 obtain rfl:s'=if y.g.v=1∧y.g.w=1 then .dn .s2 1 else .dn .gone 1:=hn
 rw[e,hv]
 have hv2:v≤63:=by omega
 generalize y.g.w=k at w0⊢
 clear e c1 c2 h1 v0 hv
 refine lq rfl (aH rfl rfl)<|aI<|aB<|L.seq<|L.seq<|L.region rfl<|lq rfl (aj rfl rfl) ?_
 refine iy (u:=.int .u64 0) rfl (jI rfl rfl rfl) (congrArg (Value.int .u64) (Zb (v:=v) (w:=k) (by omega) (by omega)).1) ?_
 refine iy (u:=.bool false) rfl (jH rfl rfl rfl) rfl ?_
 refine lq rfl (aj rfl rfl) ?_
 refine gY ?_
 refine gY ?_
 refine lq rfl (dh rfl rfl rfl)<|aI<|aB ?_
 refine L.bZ ?_
 refine L.skip<|aB<|L.seq<|L.region rfl<|lq rfl (aj rfl rfl) ?_
 refine lq rfl (Eb rfl rfl rfl (by decide)) ?_
 refine iy (u:=.int .i32 (v:Int)) rfl (wX rfl rfl) (congrArg (Value.int .i32) (Zb (v:=v) (w:=k) (by omega) (by omega)).2.2.1) ?_
 refine lq rfl (aH rfl rfl)<|aI<|aB<|L.seq<|L.region rfl<|lq rfl (aj rfl rfl) ?_
 refine iy (u:=.int .u64 (k:Int)) rfl (jI rfl rfl rfl) (congrArg (Value.int .u64) (Zb (v:=v) (w:=k) (by omega) (by omega)).2.1) ?_
 refine iy (u:=.int .u32 (k:Int)) rfl (wX rfl rfl) (congrArg (Value.int .u32) (Zb (v:=v) (w:=k) (by omega) (by omega)).2.2.2) ?_
 refine lq rfl (aH rfl rfl)<|aI<|aB<|L.seq<|L.seq<|L.region rfl<|lq rfl (aj rfl rfl)<|lq rfl (aj rfl rfl) ?_
 refine iy (u:=.bool false) rfl (Ea rfl rfl rfl) rfl ?_
 refine lq rfl (eP rfl rfl rfl)<|lq rfl (aj rfl rfl) ?_
 refine gY ?_
 refine gY ?_
 refine gY ?_
 refine gY ?_
 refine lq rfl (dh rfl rfl rfl)<|aI<|aB ?_
 refine L.bZ ?_
 refine L.skip<|aB<|L.seq<|L.seq<|L.region rfl<|lq rfl (aj rfl rfl) ?_
 refine iy (u:=.bool false) rfl (PL rfl rfl rfl) (congrArg Value.bool (decide_eq_false (by omega))) ?_
 refine aI<|aB ?_
 refine L.bZ ?_
 refine L.skip<|aB<|L.seq<|L.seq<|L.region rfl<|lq rfl (aj rfl rfl) ?_
 refine lq rfl (jH rfl rfl rfl) ?_
 refine lq rfl (aj rfl rfl) ?_
 refine LO.ask (fun adq=>?_) (fun adq=>?_)
 ·refine lq rfl (aj rfl rfl) ?_
  refine iy (u:=.bool false) rfl (Ea rfl rfl rfl) rfl ?_
  refine lq rfl (eP rfl rfl rfl)<|lq rfl (aj rfl rfl) ?_
  refine gY ?_
  refine gY ?_
  refine gY ?_
  refine gY ?_
  refine lq rfl (dh rfl rfl rfl)<|aI<|aB ?_
  refine L.bZ ?_
  refine L.skip<|aB<|L.seq<|L.seq<|L.region rfl<|lq rfl (aj rfl rfl) ?_
  refine lq rfl (Ea rfl rfl rfl) ?_
  refine lq rfl (aj rfl rfl) ?_
  refine LO.ask (fun XK=>?_) (fun XK=>?_)
  ·refine gY ?_
   refine gY ?_
   refine lq rfl (eP rfl rfl rfl)<|aI<|aB ?_
   refine L.dW ?_
   refine L.ret<|BI ?_
   rw[if_neg (by omega)]
   exact mW (s':=.dn .gone 0) (show eX γ.toGrp .en (.dn .gone 1)from Nat.one_pos) (fun x s'' h=>h) ⟨rfl,rfl⟩
  ·refine lq rfl (aj rfl rfl) ?_
   refine lq rfl (kF rfl rfl rfl) ?_
   refine lq rfl (dh rfl rfl rfl)<|aI<|aB ?_
   refine L.bC rfl (fun c94=>?_) (fun c94=>?_)
   ·refine L.ret<|BI ?_
    rw[if_neg (by omega)]
    exact mW (s':=.dn .gone 0) (show eX γ.toGrp .en (.dn .gone 1)from Nat.one_pos) (fun x s'' h=>h) ⟨rfl,rfl⟩
   ·refine L.skip<|aB<|L.seq<|L.seq ?_
    obtain rfl:k=1:=by omega
    obtain rfl:v=0:=by omega
    rw[if_pos ⟨rfl,rfl⟩]
    refine L.region rfl<|lq rfl (aj rfl rfl)<|lq rfl (aK rfl rfl)<|lq rfl (aF rfl rfl) ?_
    refine lc (vs:=[_]) rfl rfl (Iq (m:=false) (γ:=γ) (s:=.dn .s2 1) (b:=γ.Wg) (LA.BR:LA) ⟨by omega,rfl⟩ (fun y h=>h) (by simp) (fun w y h1 h2=>?_)) (hd:=rfl)
    obtain⟨-,-,-,z1,z2⟩:DF .s2 y:=h2
    refine⟨_,(LV h1).1,rfl,rfl,fun s' hn=>?_⟩
    obtain rfl:s'= .dn .s3 1:=hn
    rw[show(y.g.st:Int)=((0*4294967296+1:Nat):Int) by simp only[DV.st,z1,z2]]
    refine lq rfl (aj rfl rfl) ?_
    refine iy (u:=.bool false) rfl (jH rfl rfl rfl) (congrArg Value.bool (decide_eq_false (by simp))) ?_
    refine aI<|aB ?_
    refine L.bZ ?_
    refine L.skip<|aB<|L.seq<|L.region rfl<|lq rfl (aj rfl rfl)<|lq rfl (aK rfl rfl)<|lq rfl (aF rfl rfl) ?_
    refine lc (vs:=[_,_]) rfl rfl (PX (m:=false) (γ:=γ) (s:=.dn .s3 1) (b:=γ.Wg) (n:=0) (LA.rF:LA) ⟨by omega,rfl⟩ (fun y h=>h) (by simp) (fun w y h1 h2=>?_)) (hd:=rfl)
    refine⟨_,(LV h1).1,(LV h1).2.1,rfl,rfl,fun s' hn=>?_⟩
    obtain rfl:s'= .dn .s4 1:=hn
    refine aI<|aB<|L.seq<|L.seq<|L.region rfl<|lq rfl (aj rfl rfl)<|aI<|aB ?_
    refine L.bZ ?_
    refine L.skip<|aB<|L.block ?_
    refine L.loop (x:=⟨prog,false,aJ γ.toGrp,fK,jW.ntmps⟩) (σ:=Nat) (fun k=>k≤1) (fun k=>[(0,.pointer (some ⟨γ.Wg,0,none⟩)),(8,.int .u32 (k:Int))]) (fun k=>(if k=1 then LS.dn .s4 1 else LS.dn .gone 1:LS)) id 1 (Nat.le_refl _) ⟨rfl,rfl,trivial⟩ rfl (fun k hk=>?_)
    refine L.seq<|L.seq<|L.region rfl<|lq rfl (aj rfl rfl) ?_
    refine lq rfl (jH rfl rfl rfl) ?_
    refine aI<|aB ?_
    refine L.bC rfl (fun abN=>?_) (fun abN=>?_)
    ·obtain rfl:k=1:=by omega
     refine L.skip<|aB<|L.seq<|L.block ?_
     refine L.qc (s':=.dn .s4 1) rfl ?_
     refine L.region rfl<|lq rfl (aj rfl rfl)<|lq rfl (aK rfl rfl)<|lq rfl (aF rfl rfl) ?_
     refine lx (vs:=[_,_,_]) (LA.tN:LA) rfl rfl ⟨by omega,rfl⟩ (fun y h=>h) (fun w y h1 h2=>⟨.tuple #[],?_,fun s' hn=>?_⟩) (by simp[aJ])
     ·obtain⟨-,-,c3,c4⟩:=LV h1
      obtain⟨-,-,z1,-⟩:DF .s4 y:=h2
      have:=Ip (P:=prog) (f:=eU) (args:= #[.pointer (some ⟨γ.Wg,1,none⟩),.bool false,.int .i64 0]) rfl c3 c4
      rw[Ir (by omega) (by omega)]at this
      exact this
     obtain rfl:s'= .dn .gone 1:=hn
     refine aI<|PY<|aB<|L.region rfl<|lq rfl (aj rfl rfl) ?_
     refine iy (u:=.int .u32 0) rfl (wW rfl rfl rfl) (by kernel_rfl) ?_
     refine lq rfl (aH rfl rfl)<|aI<|aB ?_
     exact⟨rfl,0,by omega,by decide,⟨rfl,rfl,trivial⟩,rfl⟩
    ·refine L.exit<|qB<|qB<|Di ?_
     obtain rfl:k=0:=by omega
     exact mW (s':=.dn .gone 0) (show eX γ.toGrp .en (.dn .gone 1)from Nat.one_pos) (fun x s'' h=>h) ⟨rfl,rfl⟩
 ·refine gY ?_
  refine gY ?_
  refine lq rfl (dh rfl rfl rfl)<|lq rfl (aj rfl rfl) ?_
  refine gY ?_
  refine gY ?_
  refine gY ?_
  refine gY ?_
  refine lq rfl (dh rfl rfl rfl)<|aI<|aB ?_
  refine L.bZ ?_
  refine L.skip<|aB<|L.seq<|L.seq<|L.region rfl<|lq rfl (aj rfl rfl) ?_
  refine lq rfl (Ea rfl rfl rfl) ?_
  refine lq rfl (aj rfl rfl) ?_
  refine LO.ask (fun XK=>?_) (fun XK=>?_)
  ·refine gY ?_
   refine gY ?_
   refine lq rfl (eP rfl rfl rfl)<|aI<|aB ?_
   refine L.dW ?_
   refine L.ret<|BI ?_
   rw[if_neg (by omega)]
   exact mW (s':=.dn .gone 0) (show eX γ.toGrp .en (.dn .gone 1)from Nat.one_pos) (fun x s'' h=>h) ⟨rfl,rfl⟩
  ·refine lq rfl (aj rfl rfl) ?_
   refine lq rfl (kF rfl rfl rfl) ?_
   refine lq rfl (dh rfl rfl rfl)<|aI<|aB ?_
   refine L.bC rfl (fun c94=>?_) (fun c94=>?_)
   ·refine L.ret<|BI ?_
    rw[if_neg (by omega)]
    exact mW (s':=.dn .gone 0) (show eX γ.toGrp .en (.dn .gone 1)from Nat.one_pos) (fun x s'' h=>h) ⟨rfl,rfl⟩
   ·refine L.skip<|aB<|L.seq<|L.seq ?_
    obtain rfl:k=1:=by omega
    obtain rfl:v=0:=by omega
    rw[if_pos ⟨rfl,rfl⟩]
    refine L.region rfl<|lq rfl (aj rfl rfl)<|lq rfl (aK rfl rfl)<|lq rfl (aF rfl rfl) ?_
    refine lc (vs:=[_]) rfl rfl (Iq (m:=false) (γ:=γ) (s:=.dn .s2 1) (b:=γ.Wg) (LA.BR:LA) ⟨by omega,rfl⟩ (fun y h=>h) (by simp) (fun w y h1 h2=>?_)) (hd:=rfl)
    obtain⟨-,-,-,z1,z2⟩:DF .s2 y:=h2
    refine⟨_,(LV h1).1,rfl,rfl,fun s' hn=>?_⟩
    obtain rfl:s'= .dn .s3 1:=hn
    rw[show(y.g.st:Int)=((0*4294967296+1:Nat):Int) by simp only[DV.st,z1,z2]]
    refine lq rfl (aj rfl rfl) ?_
    refine iy (u:=.bool false) rfl (jH rfl rfl rfl) (congrArg Value.bool (decide_eq_false (by simp))) ?_
    refine aI<|aB ?_
    refine L.bZ ?_
    refine L.skip<|aB<|L.seq<|L.region rfl<|lq rfl (aj rfl rfl)<|lq rfl (aK rfl rfl)<|lq rfl (aF rfl rfl) ?_
    refine lc (vs:=[_,_]) rfl rfl (PX (m:=false) (γ:=γ) (s:=.dn .s3 1) (b:=γ.Wg) (n:=0) (LA.rF:LA) ⟨by omega,rfl⟩ (fun y h=>h) (by simp) (fun w y h1 h2=>?_)) (hd:=rfl)
    refine⟨_,(LV h1).1,(LV h1).2.1,rfl,rfl,fun s' hn=>?_⟩
    obtain rfl:s'= .dn .s4 1:=hn
    refine aI<|aB<|L.seq<|L.seq<|L.region rfl<|lq rfl (aj rfl rfl)<|aI<|aB ?_
    refine L.bZ ?_
    refine L.skip<|aB<|L.block ?_
    refine L.loop (x:=⟨prog,false,aJ γ.toGrp,fK,jW.ntmps⟩) (σ:=Nat) (fun k=>k≤1) (fun k=>[(0,.pointer (some ⟨γ.Wg,0,none⟩)),(8,.int .u32 (k:Int))]) (fun k=>(if k=1 then LS.dn .s4 1 else LS.dn .gone 1:LS)) id 1 (Nat.le_refl _) ⟨rfl,rfl,trivial⟩ rfl (fun k hk=>?_)
    refine L.seq<|L.seq<|L.region rfl<|lq rfl (aj rfl rfl) ?_
    refine lq rfl (jH rfl rfl rfl) ?_
    refine aI<|aB ?_
    refine L.bC rfl (fun abN=>?_) (fun abN=>?_)
    ·obtain rfl:k=1:=by omega
     refine L.skip<|aB<|L.seq<|L.block ?_
     refine L.qc (s':=.dn .s4 1) rfl ?_
     refine L.region rfl<|lq rfl (aj rfl rfl)<|lq rfl (aK rfl rfl)<|lq rfl (aF rfl rfl) ?_
     refine lx (vs:=[_,_,_]) (LA.tN:LA) rfl rfl ⟨by omega,rfl⟩ (fun y h=>h) (fun w y h1 h2=>⟨.tuple #[],?_,fun s' hn=>?_⟩) (by simp[aJ])
     ·obtain⟨-,-,c3,c4⟩:=LV h1
      obtain⟨-,-,z1,-⟩:DF .s4 y:=h2
      have:=Ip (P:=prog) (f:=eU) (args:= #[.pointer (some ⟨γ.Wg,1,none⟩),.bool false,.int .i64 0]) rfl c3 c4
      rw[Ir (by omega) (by omega)]at this
      exact this
     obtain rfl:s'= .dn .gone 1:=hn
     refine aI<|PY<|aB<|L.region rfl<|lq rfl (aj rfl rfl) ?_
     refine iy (u:=.int .u32 0) rfl (wW rfl rfl rfl) (by kernel_rfl) ?_
     refine lq rfl (aH rfl rfl)<|aI<|aB ?_
     exact⟨rfl,0,by omega,by decide,⟨rfl,rfl,trivial⟩,rfl⟩
    ·refine L.exit<|qB<|qB<|Di ?_
     obtain rfl:k=0:=by omega
     exact mW (s':=.dn .gone 0) (show eX γ.toGrp .en (.dn .gone 1)from Nat.one_pos) (fun x s'' h=>h) ⟨rfl,rfl⟩

theorem Uh{γ:GP}:Y9 prog false (aJ γ.toGrp) jK #[.pointer (some ⟨γ.Wg,0,none⟩)] (.dn .live 0) fun s=>s= .dn .gone 0:=by
 refine Y9.aG w_ rfl (by show 1≤4;decide) [(0,.pointer (some ⟨γ.Wg,0,none⟩))] ⟨rfl,trivial⟩ ?_
 refine L.region rfl<|lq rfl (aj rfl rfl) ?_
 refine lc (vs:=[_,_]) rfl rfl ?_ (hd:=rfl)
 refine iK.mono (ZW (γ:=γ)) ?_
 rintro v s ⟨rfl,rfl⟩
 refine aI ?_
 exact bM (vs:=[]) rfl
end Go.aS

/- The wait group's Wait, as the starter calls it. Conditions: none; over the given program. -/
namespace Go.aS
set_option maxRecDepth 100000
set_option maxHeartbeats 4000000
theorem ZX{γ:GP}:iK prog true (aJ γ.toGrp) jL #[.pointer (some ⟨γ.Wg,0,none⟩)] (.wg (.add 0) 0) fun v s=>v= .tuple #[]∧s= .wg .out 0:=by
 refine iK.aG xg rfl (by show 1≤84;decide) [(0,.pointer (some ⟨γ.Wg,0,none⟩))] ⟨rfl,trivial⟩ ?_
 refine L.seq ?_
 refine L.dW ?_
 refine L.region rfl ?_
 refine lx (vs:=[]) (LA.Rh:LA) rfl rfl rfl (fun y h=>h) (fun w y h1 h2=>⟨_,pK (args:= #[]) (m:=.disable) (by simp),fun s' hn=>?_⟩) (by simp[aJ])
 obtain rfl:s'= .wg (.wt none (y.g.v+1)) 1:=hn
 generalize y.g.v+1=B
 refine aI<|aB<|L.block ?_
 refine L.loop (x:=⟨prog,true,aJ γ.toGrp,jL,oC.ntmps⟩) (σ:=Nat) (fun _=>True) (fun _=>[(0,.pointer (some ⟨γ.Wg,0,none⟩))]) (fun k=>(LS.wg (.wt none k) 1:LS)) id B trivial ⟨rfl,trivial⟩ rfl (fun B _=>?_)
 refine L.block<|L.seq<|L.region rfl<|lq rfl (aj rfl rfl)<|lq rfl (aK rfl rfl)<|lq rfl (aF rfl rfl) ?_
 refine lc (vs:=[_]) rfl rfl (Iq (m:=true) (γ:=γ) (s:=.wg (.wt none B) 1) (b:=γ.Wg) (LA.IZ:LA) ⟨by omega,B,rfl⟩ (fun y h=>h) (by simp) (fun w y h1 h2=>?_)) (hd:=rfl)
 obtain⟨v0,-,-,z1,-,z2,-⟩:WF (.wt none B) y:=h2
 have z2:y.g.v<B:=z2 rfl
 refine⟨_,(LV h1).1,rfl,rfl,fun s' hn=>?_⟩
 obtain rfl:s'=if y.g.v=0 then .wg .seen 1 else .wg (.wt (some y.g.v) y.g.v) 1:=hn
 rw[show(y.g.st:Int)=((y.g.v*4294967296+0:Nat):Int) by simp only[DV.st,z1]]
 generalize y.g.v=v at v0 z2⊢
 clear z1 h1
 refine lq rfl (aH rfl rfl)<|aI<|aB<|L.seq<|L.region rfl<|lq rfl (aj rfl rfl) ?_
 refine lq rfl (Eb rfl rfl rfl (by decide)) ?_
 refine iy (u:=.int .i32 (v:Int)) rfl (wX rfl rfl) (congrArg (Value.int .i32) (Zb (v:=v) (w:=0) (by omega) (by omega)).2.2.1) ?_
 refine lq rfl (aH rfl rfl)<|aI<|aB<|L.seq<|L.region rfl<|lq rfl (aj rfl rfl) ?_
 refine iy (u:=.int .u64 0) rfl (jI rfl rfl rfl) (congrArg (Value.int .u64) (Zb (v:=v) (w:=0) (by omega) (by omega)).2.1) ?_
 refine iy (u:=.int .u32 0) rfl (wX rfl rfl) (by kernel_rfl) ?_
 refine lq rfl (aH rfl rfl)<|aI<|aB<|L.seq<|L.seq<|L.region rfl<|lq rfl (aj rfl rfl) ?_
 refine lq rfl (kF rfl rfl rfl) ?_
 refine aI<|aB ?_
 refine L.bC rfl (fun c19=>?_) (fun c19=>?_)
 ·obtain rfl:v=0:=by omega
  refine L.qc (s':=.wg .seen 1) rfl ?_
  refine L.seq ?_
  refine L.dW ?_
  refine L.seq<|L.region rfl ?_
  refine F6 (s':=.wg .seen 0) rfl (show 0<1 from Nat.one_pos) (fun x s'' h=>h) ?_
  refine aI<|aB<|L.region rfl<|lq rfl (aj rfl rfl) ?_
  refine RU (LA.non:LA) rfl rfl (by kernel_rfl) (by simp[eX,aJ]) (fun y h=>h) (by simp[rH,aJ]) (by simp[aJ]) (fun w y h1 h2=>?_)
  refine⟨⟨_,(LV h1).1⟩,rfl,rfl,fun s' hn=>?_⟩
  obtain rfl:s'= .wg .seen 0:=hn
  refine lx (vs:=[_]) (LA.Hg:LA) rfl rfl ⟨rfl,rfl⟩ (fun y h=>h) (fun w y h1 h2=>⟨_,fB (mk:=.acquire) (by simp) rfl,fun s' hn=>?_⟩) (by simp[aJ])
  obtain rfl:s'= .wg .out 0:=hn
  refine aI<|aB<|L.seq<|L.seq<|L.region rfl<|lq rfl (aj rfl rfl) ?_
  refine iy (u:=.bool true) rfl (kF rfl rfl rfl) rfl ?_
  refine lq rfl (aj rfl rfl)<|lq rfl (aj rfl rfl) ?_
  refine iy (u:=.int .u64 0) rfl (jI rfl rfl rfl) (by kernel_rfl) ?_
  refine iy (u:=.bool false) rfl (jH rfl rfl rfl) rfl ?_
  refine lq rfl (eP rfl rfl rfl)<|lq rfl (aj rfl rfl) ?_
  refine gY ?_
  refine gY ?_
  refine lq rfl (dh rfl rfl rfl)<|aI<|aB ?_
  refine L.bZ ?_
  refine L.skip<|aB<|L.ret<|BI ?_
  refine KQ ?_
  refine BI ?_
  refine KQ ?_
  exact bM (vs:=[]) ⟨rfl,rfl⟩
 ·refine L.qc (s':=.wg (.wt (some v) v) 1) (if_neg (by omega)) ?_
  refine L.skip<|aB<|L.seq<|L.region rfl<|lq rfl (aj rfl rfl)<|lq rfl (aK rfl rfl)<|lq rfl (aF rfl rfl)<|lq rfl (aj rfl rfl)<|lq rfl (aj rfl rfl) ?_
  refine iy (u:=.int .u64 ((v*4294967296+1:Nat):Int)) rfl (rU rfl rfl rfl) (congrArg (Value.int .u64) (by rw[aa4 (by omega) (by omega)];omega)) ?_
  refine lc (vs:=[_,_,_]) rfl rfl (abL (m:=true) (γ:=γ) (s:=.wg (.wt (some v) v) 1) (b:=γ.Wg) (o:=((v*4294967296+0:Nat):Int)) (n:=((v*4294967296+1:Nat):Int)) (LA.O1 v:LA) ⟨by omega,by omega,v,rfl⟩ (fun y h=>h) (by simp) (fun w y h1 h2=>?_)) (hd:=rfl)
  obtain⟨v1,-,-,z1,-,-,z3⟩:WF (.wt (some v) v) y:=h2
  obtain⟨-,z3⟩:=z3 v rfl
  obtain⟨c1,c2,-,-⟩:=LV h1
  have e:y.g.st=y.g.v*4294967296+0:=by simp only[DV.st,z1]
  rw[e]at c1
  by_cases hv:y.g.v=v
  ·rw[hv]at c1
   refine⟨_,c1,c2,.inl ⟨rfl,?_,?_,fun s' hn=>?_⟩⟩
   ·show(if y.g.v=v then _ else _)=_
    rw[if_pos hv,e,hv];rfl
   ·show(if y.g.v=v then _ else _)=_
    rw[if_pos hv];rfl
   obtain rfl:s'= .wg .reg 1:=by have hn:s'=if y.g.v=v then _ else _:=hn;rw[if_pos hv]at hn;exact hn
   clear c1 c2 e z1 hv z3 v1 h1
   refine aI<|aB ?_
   refine L.dW ?_
   refine L.seq<|L.seq<|L.region rfl<|lq rfl (aj rfl rfl)<|lq rfl (aj rfl rfl) ?_
   refine iy (u:=.bool true) rfl (kF rfl rfl rfl) rfl ?_
   refine lq rfl (eP rfl rfl rfl)<|aI<|aB ?_
   refine L.dW ?_
   refine L.region rfl<|lq rfl (aj rfl rfl)<|lq rfl (aK rfl rfl)<|lq rfl (aF rfl rfl) ?_
   refine RU (LA.non:LA) rfl rfl (by kernel_rfl) (by simp[eX,aJ]) (fun y h=>h) (by simp[rH,aJ]) (by simp[aJ]) (fun w y h1 h2=>?_)
   refine⟨⟨_,(LV h1).2.2.1⟩,rfl,rfl,fun s' hn=>?_⟩
   obtain rfl:s'= .wg .reg 1:=hn
   refine lx (vs:=[_]) (LA.FH:LA) rfl rfl rfl (fun y h=>h) (fun w y h1 h2=>⟨_,fB (mk:=.write) (by simp) rfl,fun s' hn=>?_⟩) (by simp[aJ])
   obtain rfl:s'= .wg .reg 1:=hn
   refine aI<|aB<|L.seq<|L.region rfl<|lq rfl (aH rfl rfl)<|aI<|aB<|L.seq<|L.seq<|L.region rfl ?_
   refine lq rfl (aj rfl rfl) ?_
   refine iy (u:=.int .u64 0) rfl (jI rfl rfl rfl) (congrArg (Value.int .u64) (Zb (v:=v) (w:=0) (by omega) (by omega)).1) ?_
   refine iy (u:=.bool false) rfl (jH rfl rfl rfl) rfl ?_
   refine lq rfl (aj rfl rfl) ?_
   refine gY ?_
   refine lq rfl (dh rfl rfl rfl)<|aI<|aB ?_
   refine L.bZ ?_
   refine L.skip<|aB<|L.seq<|L.region rfl<|lq rfl (aj rfl rfl)<|lq rfl (aK rfl rfl)<|lq rfl (aF rfl rfl)<|lq rfl (aj rfl rfl) ?_
   refine lxb (vs:=[_,_]) (LA.DW:LA) rfl rfl ⟨by omega,rfl⟩ (fun w y h1 h2 h3=>?_) (fun w y h1 h2 h3=>⟨.tuple #[],?_,fun s' hn=>?_⟩) (by simp[aJ])
   ·obtain⟨-,-,c3,-⟩:=LV h1
    rw[show y.g.ws=0 from h3]at c3
    exact Jt rfl c3
   ·obtain⟨-,-,c3,c4⟩:=LV h1
    have h3:¬y.g.ws=0:=h3
    have:=NM (P:=prog) (f:=dS) (args:= #[.pointer (some ⟨γ.Wg,1,none⟩),.bool false]) rfl c3 (by omega) c4
    rw[show(y.g.ws:Int)-1=((y.g.ws-1:Nat):Int) by omega]at this
    exact this
   obtain rfl:s'= .wg .seen 1:=hn
   refine aI<|aB<|L.seq<|L.region rfl<|lq rfl (aj rfl rfl)<|lq rfl (aK rfl rfl)<|lq rfl (aF rfl rfl) ?_
   refine lc (vs:=[_]) rfl rfl (Iq (m:=true) (γ:=γ) (s:=.wg .seen 1) (b:=γ.Wg) (LA.LH:LA) ⟨by omega,rfl⟩ (fun y h=>h) (by simp) (fun w y h1 h2=>?_)) (hd:=rfl)
   obtain⟨-,-,-,z1,z2,-⟩:WF .seen y:=h2
   refine⟨_,(LV h1).1,rfl,rfl,fun s' hn=>?_⟩
   obtain rfl:s'= .wg .seen 1:=hn
   rw[show(y.g.st:Int)=0 by simp only[DV.st,z1,z2];rfl]
   refine iy (u:=.bool false) rfl (jH rfl rfl rfl) rfl ?_
   refine lq rfl (aH rfl rfl)<|aI<|aB<|L.seq ?_
   refine L.dW ?_
   refine L.seq<|L.region rfl ?_
   refine F6 (s':=.wg .seen 0) rfl (show 0<1 from Nat.one_pos) (fun x s'' h=>h) ?_
   refine aI<|aB<|L.region rfl<|lq rfl (aj rfl rfl) ?_
   refine RU (LA.non:LA) rfl rfl (by kernel_rfl) (by simp[eX,aJ]) (fun y h=>h) (by simp[rH,aJ]) (by simp[aJ]) (fun w y h1 h2=>?_)
   refine⟨⟨_,(LV h1).1⟩,rfl,rfl,fun s' hn=>?_⟩
   obtain rfl:s'= .wg .seen 0:=hn
   refine lx (vs:=[_]) (LA.Hg:LA) rfl rfl ⟨rfl,rfl⟩ (fun y h=>h) (fun w y h1 h2=>⟨_,fB (mk:=.acquire) (by simp) rfl,fun s' hn=>?_⟩) (by simp[aJ])
   obtain rfl:s'= .wg .out 0:=hn
   refine aI<|aB<|L.seq<|L.seq<|L.region rfl<|lq rfl (aj rfl rfl)<|aI<|aB ?_
   refine L.bZ ?_
   refine L.skip<|aB<|L.ret ?_
   refine KQ ?_
   refine BI ?_
   refine KQ ?_
   exact bM (vs:=[]) ⟨rfl,rfl⟩
  ·refine⟨_,c1,c2,.inr ⟨by omega,?_,?_,fun s' hn=>?_⟩⟩
   ·show(if y.g.v=v then _ else _)=_
    rw[if_neg hv]
   ·show(if y.g.v=v then _ else _)=_
    rw[if_neg hv];rfl
   obtain rfl:s'= .wg (.wt none v) 1:=by have hn:s'=if y.g.v=v then _ else _:=hn;rw[if_neg hv]at hn;exact hn
   refine aI<|aB ?_
   refine L.bZ ?_
   refine L.skip<|PY<|aB ?_
   exact⟨rfl,v,trivial,z2,⟨rfl,trivial⟩,rfl⟩
end Go.aS

/- The mutex's word, looked at and turned, in walks through a library. Conditions: none; over any program. -/
namespace Go.aS
theorem L.cut{x:Lx}{y z:Code}{Q:kD x.π}{ρ:Env}{ds:List Deferred}{s:x.π.S}(I:Env→List Deferred→x.π.S→Prop)(H:L x y (UU I Q) ρ ds s)(K:∀ρ' ds' s',I ρ' ds' s'→L x z Q ρ' ds' s'):L x (.seq y z) Q ρ ds s:=by
 refine L.seq (L.mono H fun e ρ ds s q=>?_)
 cases e <;>first | exact K _ _ _ q | exact q

def rl(aw:Bool):MR:=bif aw then .FD else .out
theorem wu{aw:Bool}{m:kQ}:kE (rl aw) m=rl aw:=by cases aw <;>rfl
def LkF(st:Nat)(sv aw:Bool)(nw:Nat):Prop:=(st % 2=0∧st / 4 % 2=0∧nw=bif aw then st-1 else st+1)∨((st % 2=1∨st / 4 % 2=1)∧nw=bif aw then(bif sv then st+10 else st+6)else st+8)
def ZY(st:Nat):MR:=if st % 2=0∧st / 4 % 2=0 then .hold else .AP
theorem LkF.ok{st nw:Nat}{sv aw:Bool}(h:LkF st sv aw nw)(ha:aw=true→st / 2 % 2=1∧st / 4 % 2=0):∃y:kQ,(y.l≤1∧y.w≤1∧y.s≤1)∧st=y.st∧TB (rl aw) (ZY st) y nw:=by
 refine⟨kQ.set ⟨0,0,0,0,0⟩ st,⟨?_,?_,?_⟩,(kQ.wM _ _).symm,?_⟩
 ·show st % 2≤1;omega
 ·show st / 2 % 2≤1;omega
 ·show st / 4 % 2≤1;omega
 have e:=kQ.wM ⟨0,0,0,0,0⟩ st
 rcases h with⟨h1,h2,h3⟩ | ⟨h1,h3⟩
 ·rw[ZY,if_pos ⟨h1,h2⟩]
  cases aw with
  | true=>
   obtain⟨a1,a2⟩:=ha rfl
   exact⟨h1,h2,a1,by rw[e,h3];simp only[cond_true];omega⟩
  | false=>exact⟨h1,h2,by rw[e,h3];rfl⟩
 ·rw[ZY,if_neg (by omega)]
  cases aw with
  | true=>
   obtain⟨a1,a2⟩:=ha rfl
   refine⟨show st % 2=1 by omega,a2,a1,?_⟩
   rw[e,h3]
   cases sv <;>simp
  | false=>exact⟨h1,by rw[e,h3];rfl⟩

section
variable{P:Program}{m:Bool}{γ:Grp}{fn:FuncId}{n:Nat}{Q:kD (aJ γ)}{ρ:Env}{ds:List Deferred}{ops:Array Oper}{i d:Nat}{rest:List Nat}{ty:TypeId}{pos:String}{bK:Array Edge}{g:Option (Nat×Bool)}{f:FuncId}{args:List Operand}{ts:Array TypeId}{r r':MR}{old:Option Nat}{B dd ph:Nat}
theorem yA{t:TypeId}{y:Operand}[SC P t](hm:γ.mu≠none)(hq:(P.funcs[fn]?).any (·.norace)=true)(ho:cO ops.toList i=some ⟨some d,.load t y,ty,pos,bK,g⟩)(hy:ev ρ y=some (.pointer (some ⟨γ.Mu,0,none⟩)))
  (H:∀x:XS,MF r old B x→LO ⟨P,m,aJ γ,fn,n⟩ ops rest Q ((d,.int .i32 (x.m.st:Int))::ρ) ds (.mu (kE r x.m) (some x.m.st) x.E dd ph))
  (hw:want ops ρ ⟨some d,.load t y,ty,pos,bK,g⟩:=by first | exact wn | exact ak rfl rfl rfl) (hd:Nat.blt d n=true:=by rfl):LO ⟨P,m,aJ γ,fn,n⟩ ops (i::rest) Q ρ ds (.mu r old B dd ph):=
 ll (
   x:=⟨P,m,aJ γ,fn,n⟩) (LA.load:LA) ho hy hq (show γ.mu≠none from hm) (fun y h=>h) (fun h=>by rcases h with h | h <;>cases h) (fun h=>by rcases h with h | h <;>cases h)
  (
   fun w y h1 h2=>⟨_,(Ib hm h1).1,rfl,rfl,fun s' hn=>by
   have hn:s'=LS.mu (kE r y.m) (some y.m.st) y.E dd ph:=hn
   subst hn
   exact H y h2⟩) hw hd
theorem XL{o nw:Nat}(hm:γ.mu≠none)(ho:cO ops.toList i=some ⟨some d,.call ⟨.value (.func f),args.toArray,ts⟩,ty,pos,bK,g⟩)[XF P f (Extern.Atomic.casT (.int .i32))](hv:evs ρ args=some [.pointer (some ⟨γ.Mu,0,none⟩),.int .i32 (o:Int),.int .i32 (nw:Int)])
  (hcan:eX γ (.cas o nw r') (.mu r old B dd ph)) (H1:LO ⟨P,m,aJ γ,fn,n⟩ ops rest Q ((d,.bool true)::ρ) ds (.mu r' none B dd ph)) (H2:LO ⟨P,m,aJ γ,fn,n⟩ ops rest Q ((d,.bool false)::ρ) ds (.mu r none B dd ph))
  (hw:want ops ρ ⟨some d,.call ⟨.value (.func f),args.toArray,ts⟩,ty,pos,bK,g⟩:=by first | exact wn | exact ak rfl rfl rfl) (hd:Nat.blt d n=true:=by rfl):LO ⟨P,m,aJ γ,fn,n⟩ ops (i::rest) Q ρ ds (.mu r old B dd ph):=by
 refine lx (x:=⟨P,m,aJ γ,fn,n⟩) (LA.cas o nw r':LA) ho hv hcan (fun y h=>h) (fun w y h1 h2=>?_) (fun h=>by rcases h with h | h <;>cases h) hw hd
 obtain⟨c1,c2,-,-⟩:=Ib hm h1
 by_cases hs:y.m.st=o
 ·refine⟨.bool true,?_,fun s' hn=>?_⟩
  ·show Yields P f _ w _ (if y.m.st=o then _ else _) (if y.m.st=o then _ else _)
   rw[if_pos hs,if_pos hs]
   rw[hs]at c1
   exact XC c1 c2
  ·have hn:s'=if y.m.st=o then LS.mu r' none B dd ph else LS.mu r none B dd ph:=hn
   rw[if_pos hs]at hn
   subst hn
   exact H1
 ·refine⟨.bool false,?_,fun s' hn=>?_⟩
  ·show Yields P f _ w _ (if y.m.st=o then _ else _) (if y.m.st=o then _ else _)
   rw[if_neg hs,if_neg hs]
   exact Ub c1 c2 (by omega)
  ·have hn:s'=if y.m.st=o then LS.mu r' none B dd ph else LS.mu r none B dd ph:=hn
   rw[if_neg hs]at hn
   subst hn
   exact H2
theorem adr{k:IntKind}{it:Int}(ho:cO ops.toList i=some ⟨some d,.call ⟨.value (.func f),args.toArray,ts⟩,ty,pos,bK,g⟩)[XF P f Extern.Sync.canSpin](hv:evs ρ args=some [.int k it])
  (H:∀b:Bool,(b=true→it<4)→LO ⟨P,m,aJ γ,fn,n⟩ ops rest Q ((d,.bool b)::ρ) ds (.mu r old B dd ph))
  (hw:want ops ρ ⟨some d,.call ⟨.value (.func f),args.toArray,ts⟩,ty,pos,bK,g⟩:=by first | exact wn | exact ak rfl rfl rfl) (hd:Nat.blt d n=true:=by rfl):LO ⟨P,m,aJ γ,fn,n⟩ ops (i::rest) Q ρ ds (.mu r old B dd ph):=by
 by_cases h4:4≤it
 ·exact lx0 (x:=⟨P,m,aJ γ,fn,n⟩) ho hv (fun w=>Vf h4) (H false (fun h=>by cases h)) hw hd
 ·refine lx (x:=⟨P,m,aJ γ,fn,n⟩) (LA.ask:LA) ho hv trivial (fun y h=>h) (fun w y h1 h2=>?_) (fun h=>by rcases h with h | h <;>cases h) hw hd
  obtain⟨b,hy⟩:=ZQ (P:=P) (f:=f) (w:=w) (k:=k) (n:=it) (by omega)
  exact⟨.bool b,hy,fun s' hn=>by
   have hn:s'=LS.mu r old B dd ph:=hn
   subst hn
   exact H b fun _=>by omega⟩
end
end Go.aS
