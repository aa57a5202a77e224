/- The names of the functions and types of this cut, and the facts that the load gives of them. -/
import Derived.Test.YtdaphjnenookiaaDoorProg
import Derived.Test.YtdaphjnenookiaaDoorL13
namespace Go.Proofs.YtdaphjnenookiaaDoor
open Go Go.RowKit Go.Proofs
set_option linter.unusedVariables false

noncomputable abbrev Pr : Program := Tryd.prog
abbrev N_beacon_New : Nat := 30
abbrev N_beacon_Stream_Word : Nat := 34
abbrev N_group_Base : Nat := 23
abbrev N_group_Bytes : Nat := 53
abbrev N_group_Product : Nat := 20
abbrev N_group_Right : Nat := 35
abbrev N_group_Times : Nat := 22
abbrev N_internal_strconv_FormatInt : Nat := 73
abbrev N_internal_strconv_Itoa : Nat := 65
abbrev N_internal_strconv_small : Nat := 83
abbrev N_keys_Chain : Nat := 7
abbrev N_keys_Check : Nat := 10
abbrev N_keys_Inner : Nat := 11
abbrev N_keys_Make : Nat := 18
abbrev N_keys_Make_1 : Nat := 32
abbrev N_keys_Named : Nat := 31
abbrev N_keys_Tell : Nat := 13
abbrev N_keys_draw : Nat := 25
abbrev N_law16_KeysCheck : Nat := 4
abbrev N_law16_KeysInner : Nat := 5
abbrev N_law16_KeysTell : Nat := 3
abbrev N_law16_alive : Nat := 6
abbrev N_math_bits_Div64 : Nat := 78
abbrev N_math_bits_LeadingZeros64 : Nat := 89
abbrev N_math_bits_Len64 : Nat := 93
abbrev N_math_bits_Mul64 : Nat := 55
abbrev N_math_bits_Rem64 : Nat := 70
abbrev N_modp_Mul : Nat := 39
abbrev N_modp_Pow : Nat := 42
abbrev N_modp_Reduce : Nat := 56
abbrev N_proof_Answer : Nat := 43
abbrev N_proof_Back : Nat := 38
abbrev N_proof_Challenge : Nat := 37
abbrev N_proof_CheckKnow : Nat := 19
abbrev N_proof_Know : Nat := 24
abbrev N_proof_Right : Nat := 36
abbrev N_ref12_Chain : Nat := 9
abbrev N_ref12_CheckChain : Nat := 15
abbrev N_ref12_Inner : Nat := 12
abbrev N_ref12_SamePublics : Nat := 8
abbrev N_ref12_Tell : Nat := 14
abbrev N_ref12_draw : Nat := 28
abbrev N_ref1_AddN : Nat := 16
abbrev N_ref1_Base : Nat := 17
abbrev N_ref1_Bytes : Nat := 60
abbrev N_ref1_Challenge : Nat := 45
abbrev N_ref1_CheckKnow : Nat := 29
abbrev N_ref1_Get32 : Nat := 81
abbrev N_ref1_Know : Nat := 27
abbrev N_ref1_MulN : Nat := 64
abbrev N_ref1_MulP : Nat := 41
abbrev N_ref1_OfN : Nat := 62
abbrev N_ref1_Parts : Nat := 61
abbrev N_ref1_PowP : Nat := 44
abbrev N_ref1_Product : Nat := 21
abbrev N_ref1_Put32 : Nat := 79
abbrev N_ref1_Put64 : Nat := 71
abbrev N_ref1_Right : Nat := 40
abbrev N_ref1_Rot : Nat := 99
abbrev N_ref1_Sha : Nat := 72
abbrev N_ref1_SubN : Nat := 63
abbrev N_ref1_Times : Nat := 26
abbrev N_ref1_Written : Nat := 80
abbrev N_ref1_answer : Nat := 46
abbrev N_ref1_back : Nat := 48
abbrev N_ref1_get : Nat := 90
abbrev N_ref1_mixed : Nat := 82
abbrev N_ref1_small : Nat := 47
abbrev N_ref1_turn : Nat := 91
abbrev N_ref1_wide : Nat := 57
abbrev N_scalar_Add : Nat := 69
abbrev N_scalar_Mul : Nat := 59
abbrev N_scalar_Of : Nat := 54
abbrev N_scalar_Reduce : Nat := 33
abbrev N_scalar_Sub : Nat := 58
abbrev N_sha_Parts : Nat := 50
abbrev N_sha_Sum : Nat := 66
abbrev N_sha_first : Nat := 74
abbrev N_sha_mix : Nat := 77
abbrev N_sha_numbers : Nat := 75
abbrev N_sha_padded : Nat := 76
abbrev N_sha_schedule : Nat := 87
abbrev N_sha_step : Nat := 88
abbrev N_strconv_Itoa : Nat := 49
abbrev N_words_Get32 : Nat := 97
abbrev N_words_Get64 : Nat := 52
abbrev N_words_Put32 : Nat := 67
abbrev N_words_Put64 : Nat := 51
abbrev N_words_Rot : Nat := 98
abbrev N_words_get : Nat := 68
abbrev ty_a64_uint32 : Nat := 83
abbrev ty_a8_uint32 : Nat := 81
abbrev ty_api_Key : Nat := 46
abbrev ty_api_Proof : Nat := 33
abbrev ty_api_Public : Nat := 35
abbrev ty_api_Secrets : Nat := 38
abbrev ty_beacon_Stream : Nat := 61
abbrev ty_bool : Nat := 4
abbrev ty_int : Nat := 3
abbrev ty_p_beacon_Stream : Nat := 51
abbrev ty_sl_api_Public : Nat := 26
abbrev ty_sl_api_Secrets : Nat := 22
abbrev ty_sl_int : Nat := 62
abbrev ty_sl_sl_uint64 : Nat := 23
abbrev ty_sl_sl_uint8 : Nat := 67
abbrev ty_sl_uint32 : Nat := 88
abbrev ty_sl_uint64 : Nat := 31
abbrev ty_sl_uint8 : Nat := 65
abbrev ty_string : Nat := 9
abbrev ty_uint : Nat := 75
abbrev ty_uint32 : Nat := 78
abbrev ty_uint64 : Nat := 24
abbrev ty_uint8 : Nat := 5
theorem cl_beacon_New : ∀ (args : Array Value) (w : World), (callFunc 30 args).run Tryd.prog w = .ok (.enter 30 args) w := fun args w => Tryd.call30 args w
theorem cl_beacon_Stream_Word : ∀ (args : Array Value) (w : World), (callFunc 34 args).run Tryd.prog w = .ok (.enter 34 args) w := fun args w => Tryd.call34 args w
theorem cl_group_Base : ∀ (args : Array Value) (w : World), (callFunc 23 args).run Tryd.prog w = .ok (.enter 23 args) w := fun args w => Tryd.call23 args w
theorem cl_group_Bytes : ∀ (args : Array Value) (w : World), (callFunc 53 args).run Tryd.prog w = .ok (.enter 53 args) w := fun args w => Tryd.call53 args w
theorem cl_group_Product : ∀ (args : Array Value) (w : World), (callFunc 20 args).run Tryd.prog w = .ok (.enter 20 args) w := fun args w => Tryd.call20 args w
theorem cl_group_Right : ∀ (args : Array Value) (w : World), (callFunc 35 args).run Tryd.prog w = .ok (.enter 35 args) w := fun args w => Tryd.call35 args w
theorem cl_group_Times : ∀ (args : Array Value) (w : World), (callFunc 22 args).run Tryd.prog w = .ok (.enter 22 args) w := fun args w => Tryd.call22 args w
theorem cl_internal_strconv_FormatInt : ∀ (args : Array Value) (w : World), (callFunc 73 args).run Tryd.prog w = .ok (.enter 73 args) w := fun args w => Tryd.call73 args w
theorem cl_internal_strconv_Itoa : ∀ (args : Array Value) (w : World), (callFunc 65 args).run Tryd.prog w = .ok (.enter 65 args) w := fun args w => Tryd.call65 args w
theorem cl_internal_strconv_small : ∀ (args : Array Value) (w : World), (callFunc 83 args).run Tryd.prog w = .ok (.enter 83 args) w := fun args w => Tryd.call83 args w
theorem cl_keys_Chain : ∀ (args : Array Value) (w : World), (callFunc 7 args).run Tryd.prog w = .ok (.enter 7 args) w := fun args w => Tryd.call7 args w
theorem cl_keys_Check : ∀ (args : Array Value) (w : World), (callFunc 10 args).run Tryd.prog w = .ok (.enter 10 args) w := fun args w => Tryd.call10 args w
theorem cl_keys_Inner : ∀ (args : Array Value) (w : World), (callFunc 11 args).run Tryd.prog w = .ok (.enter 11 args) w := fun args w => Tryd.call11 args w
theorem cl_keys_Make : ∀ (args : Array Value) (w : World), (callFunc 18 args).run Tryd.prog w = .ok (.enter 18 args) w := fun args w => Tryd.call18 args w
theorem cl_keys_Make_1 : ∀ (args : Array Value) (w : World), (callFunc 32 args).run Tryd.prog w = .ok (.enter 32 args) w := fun args w => Tryd.call32 args w
theorem cl_keys_Named : ∀ (args : Array Value) (w : World), (callFunc 31 args).run Tryd.prog w = .ok (.enter 31 args) w := fun args w => Tryd.call31 args w
theorem cl_keys_Tell : ∀ (args : Array Value) (w : World), (callFunc 13 args).run Tryd.prog w = .ok (.enter 13 args) w := fun args w => Tryd.call13 args w
theorem cl_keys_draw : ∀ (args : Array Value) (w : World), (callFunc 25 args).run Tryd.prog w = .ok (.enter 25 args) w := fun args w => Tryd.call25 args w
theorem cl_law16_alive : ∀ (args : Array Value) (w : World), (callFunc 6 args).run Tryd.prog w = .ok (.enter 6 args) w := fun args w => Tryd.call6 args w
theorem cl_math_bits_Div64 : ∀ (args : Array Value) (w : World), (callFunc 78 args).run Tryd.prog w = .ok (.enter 78 args) w := fun args w => Tryd.call78 args w
theorem cl_math_bits_LeadingZeros64 : ∀ (args : Array Value) (w : World), (callFunc 89 args).run Tryd.prog w = .ok (.enter 89 args) w := fun args w => Tryd.call89 args w
theorem cl_math_bits_Len64 : ∀ (args : Array Value) (w : World), (callFunc 93 args).run Tryd.prog w = .ok (.enter 93 args) w := fun args w => Tryd.call93 args w
theorem cl_math_bits_Mul64 : ∀ (args : Array Value) (w : World), (callFunc 55 args).run Tryd.prog w = .ok (.enter 55 args) w := fun args w => Tryd.call55 args w
theorem cl_math_bits_Rem64 : ∀ (args : Array Value) (w : World), (callFunc 70 args).run Tryd.prog w = .ok (.enter 70 args) w := fun args w => Tryd.call70 args w
theorem cl_modp_Mul : ∀ (args : Array Value) (w : World), (callFunc 39 args).run Tryd.prog w = .ok (.enter 39 args) w := fun args w => Tryd.call39 args w
theorem cl_modp_Pow : ∀ (args : Array Value) (w : World), (callFunc 42 args).run Tryd.prog w = .ok (.enter 42 args) w := fun args w => Tryd.call42 args w
theorem cl_modp_Reduce : ∀ (args : Array Value) (w : World), (callFunc 56 args).run Tryd.prog w = .ok (.enter 56 args) w := fun args w => Tryd.call56 args w
theorem cl_proof_Answer : ∀ (args : Array Value) (w : World), (callFunc 43 args).run Tryd.prog w = .ok (.enter 43 args) w := fun args w => Tryd.call43 args w
theorem cl_proof_Back : ∀ (args : Array Value) (w : World), (callFunc 38 args).run Tryd.prog w = .ok (.enter 38 args) w := fun args w => Tryd.call38 args w
theorem cl_proof_Challenge : ∀ (args : Array Value) (w : World), (callFunc 37 args).run Tryd.prog w = .ok (.enter 37 args) w := fun args w => Tryd.call37 args w
theorem cl_proof_CheckKnow : ∀ (args : Array Value) (w : World), (callFunc 19 args).run Tryd.prog w = .ok (.enter 19 args) w := fun args w => Tryd.call19 args w
theorem cl_proof_Know : ∀ (args : Array Value) (w : World), (callFunc 24 args).run Tryd.prog w = .ok (.enter 24 args) w := fun args w => Tryd.call24 args w
theorem cl_proof_Right : ∀ (args : Array Value) (w : World), (callFunc 36 args).run Tryd.prog w = .ok (.enter 36 args) w := fun args w => Tryd.call36 args w
theorem cl_ref12_Chain : ∀ (args : Array Value) (w : World), (callFunc 9 args).run Tryd.prog w = .ok (.enter 9 args) w := fun args w => Tryd.call9 args w
theorem cl_ref12_CheckChain : ∀ (args : Array Value) (w : World), (callFunc 15 args).run Tryd.prog w = .ok (.enter 15 args) w := fun args w => Tryd.call15 args w
theorem cl_ref12_Inner : ∀ (args : Array Value) (w : World), (callFunc 12 args).run Tryd.prog w = .ok (.enter 12 args) w := fun args w => Tryd.call12 args w
theorem cl_ref12_SamePublics : ∀ (args : Array Value) (w : World), (callFunc 8 args).run Tryd.prog w = .ok (.enter 8 args) w := fun args w => Tryd.call8 args w
theorem cl_ref12_Tell : ∀ (args : Array Value) (w : World), (callFunc 14 args).run Tryd.prog w = .ok (.enter 14 args) w := fun args w => Tryd.call14 args w
theorem cl_ref12_draw : ∀ (args : Array Value) (w : World), (callFunc 28 args).run Tryd.prog w = .ok (.enter 28 args) w := fun args w => Tryd.call28 args w
theorem cl_ref1_AddN : ∀ (args : Array Value) (w : World), (callFunc 16 args).run Tryd.prog w = .ok (.enter 16 args) w := fun args w => Tryd.call16 args w
theorem cl_ref1_Base : ∀ (args : Array Value) (w : World), (callFunc 17 args).run Tryd.prog w = .ok (.enter 17 args) w := fun args w => Tryd.call17 args w
theorem cl_ref1_Bytes : ∀ (args : Array Value) (w : World), (callFunc 60 args).run Tryd.prog w = .ok (.enter 60 args) w := fun args w => Tryd.call60 args w
theorem cl_ref1_Challenge : ∀ (args : Array Value) (w : World), (callFunc 45 args).run Tryd.prog w = .ok (.enter 45 args) w := fun args w => Tryd.call45 args w
theorem cl_ref1_CheckKnow : ∀ (args : Array Value) (w : World), (callFunc 29 args).run Tryd.prog w = .ok (.enter 29 args) w := fun args w => Tryd.call29 args w
theorem cl_ref1_Get32 : ∀ (args : Array Value) (w : World), (callFunc 81 args).run Tryd.prog w = .ok (.enter 81 args) w := fun args w => Tryd.call81 args w
theorem cl_ref1_Know : ∀ (args : Array Value) (w : World), (callFunc 27 args).run Tryd.prog w = .ok (.enter 27 args) w := fun args w => Tryd.call27 args w
theorem cl_ref1_MulN : ∀ (args : Array Value) (w : World), (callFunc 64 args).run Tryd.prog w = .ok (.enter 64 args) w := fun args w => Tryd.call64 args w
theorem cl_ref1_MulP : ∀ (args : Array Value) (w : World), (callFunc 41 args).run Tryd.prog w = .ok (.enter 41 args) w := fun args w => Tryd.call41 args w
theorem cl_ref1_OfN : ∀ (args : Array Value) (w : World), (callFunc 62 args).run Tryd.prog w = .ok (.enter 62 args) w := fun args w => Tryd.call62 args w
theorem cl_ref1_Parts : ∀ (args : Array Value) (w : World), (callFunc 61 args).run Tryd.prog w = .ok (.enter 61 args) w := fun args w => Tryd.call61 args w
theorem cl_ref1_PowP : ∀ (args : Array Value) (w : World), (callFunc 44 args).run Tryd.prog w = .ok (.enter 44 args) w := fun args w => Tryd.call44 args w
theorem cl_ref1_Product : ∀ (args : Array Value) (w : World), (callFunc 21 args).run Tryd.prog w = .ok (.enter 21 args) w := fun args w => Tryd.call21 args w
theorem cl_ref1_Put32 : ∀ (args : Array Value) (w : World), (callFunc 79 args).run Tryd.prog w = .ok (.enter 79 args) w := fun args w => Tryd.call79 args w
theorem cl_ref1_Put64 : ∀ (args : Array Value) (w : World), (callFunc 71 args).run Tryd.prog w = .ok (.enter 71 args) w := fun args w => Tryd.call71 args w
theorem cl_ref1_Right : ∀ (args : Array Value) (w : World), (callFunc 40 args).run Tryd.prog w = .ok (.enter 40 args) w := fun args w => Tryd.call40 args w
theorem cl_ref1_Rot : ∀ (args : Array Value) (w : World), (callFunc 99 args).run Tryd.prog w = .ok (.enter 99 args) w := fun args w => Tryd.call99 args w
theorem cl_ref1_Sha : ∀ (args : Array Value) (w : World), (callFunc 72 args).run Tryd.prog w = .ok (.enter 72 args) w := fun args w => Tryd.call72 args w
theorem cl_ref1_SubN : ∀ (args : Array Value) (w : World), (callFunc 63 args).run Tryd.prog w = .ok (.enter 63 args) w := fun args w => Tryd.call63 args w
theorem cl_ref1_Times : ∀ (args : Array Value) (w : World), (callFunc 26 args).run Tryd.prog w = .ok (.enter 26 args) w := fun args w => Tryd.call26 args w
theorem cl_ref1_Written : ∀ (args : Array Value) (w : World), (callFunc 80 args).run Tryd.prog w = .ok (.enter 80 args) w := fun args w => Tryd.call80 args w
theorem cl_ref1_answer : ∀ (args : Array Value) (w : World), (callFunc 46 args).run Tryd.prog w = .ok (.enter 46 args) w := fun args w => Tryd.call46 args w
theorem cl_ref1_back : ∀ (args : Array Value) (w : World), (callFunc 48 args).run Tryd.prog w = .ok (.enter 48 args) w := fun args w => Tryd.call48 args w
theorem cl_ref1_get : ∀ (args : Array Value) (w : World), (callFunc 90 args).run Tryd.prog w = .ok (.enter 90 args) w := fun args w => Tryd.call90 args w
theorem cl_ref1_mixed : ∀ (args : Array Value) (w : World), (callFunc 82 args).run Tryd.prog w = .ok (.enter 82 args) w := fun args w => Tryd.call82 args w
theorem cl_ref1_small : ∀ (args : Array Value) (w : World), (callFunc 47 args).run Tryd.prog w = .ok (.enter 47 args) w := fun args w => Tryd.call47 args w
theorem cl_ref1_turn : ∀ (args : Array Value) (w : World), (callFunc 91 args).run Tryd.prog w = .ok (.enter 91 args) w := fun args w => Tryd.call91 args w
theorem cl_ref1_wide : ∀ (args : Array Value) (w : World), (callFunc 57 args).run Tryd.prog w = .ok (.enter 57 args) w := fun args w => Tryd.call57 args w
theorem cl_scalar_Add : ∀ (args : Array Value) (w : World), (callFunc 69 args).run Tryd.prog w = .ok (.enter 69 args) w := fun args w => Tryd.call69 args w
theorem cl_scalar_Mul : ∀ (args : Array Value) (w : World), (callFunc 59 args).run Tryd.prog w = .ok (.enter 59 args) w := fun args w => Tryd.call59 args w
theorem cl_scalar_Of : ∀ (args : Array Value) (w : World), (callFunc 54 args).run Tryd.prog w = .ok (.enter 54 args) w := fun args w => Tryd.call54 args w
theorem cl_scalar_Reduce : ∀ (args : Array Value) (w : World), (callFunc 33 args).run Tryd.prog w = .ok (.enter 33 args) w := fun args w => Tryd.call33 args w
theorem cl_scalar_Sub : ∀ (args : Array Value) (w : World), (callFunc 58 args).run Tryd.prog w = .ok (.enter 58 args) w := fun args w => Tryd.call58 args w
theorem cl_sha_Parts : ∀ (args : Array Value) (w : World), (callFunc 50 args).run Tryd.prog w = .ok (.enter 50 args) w := fun args w => Tryd.call50 args w
theorem cl_sha_Sum : ∀ (args : Array Value) (w : World), (callFunc 66 args).run Tryd.prog w = .ok (.enter 66 args) w := fun args w => Tryd.call66 args w
theorem cl_sha_first : ∀ (args : Array Value) (w : World), (callFunc 74 args).run Tryd.prog w = .ok (.enter 74 args) w := fun args w => Tryd.call74 args w
theorem cl_sha_mix : ∀ (args : Array Value) (w : World), (callFunc 77 args).run Tryd.prog w = .ok (.enter 77 args) w := fun args w => Tryd.call77 args w
theorem cl_sha_numbers : ∀ (args : Array Value) (w : World), (callFunc 75 args).run Tryd.prog w = .ok (.enter 75 args) w := fun args w => Tryd.call75 args w
theorem cl_sha_padded : ∀ (args : Array Value) (w : World), (callFunc 76 args).run Tryd.prog w = .ok (.enter 76 args) w := fun args w => Tryd.call76 args w
theorem cl_sha_schedule : ∀ (args : Array Value) (w : World), (callFunc 87 args).run Tryd.prog w = .ok (.enter 87 args) w := fun args w => Tryd.call87 args w
theorem cl_sha_step : ∀ (args : Array Value) (w : World), (callFunc 88 args).run Tryd.prog w = .ok (.enter 88 args) w := fun args w => Tryd.call88 args w
theorem cl_strconv_Itoa : ∀ (args : Array Value) (w : World), (callFunc 49 args).run Tryd.prog w = .ok (.enter 49 args) w := fun args w => Tryd.call49 args w
theorem cl_words_Get32 : ∀ (args : Array Value) (w : World), (callFunc 97 args).run Tryd.prog w = .ok (.enter 97 args) w := fun args w => Tryd.call97 args w
theorem cl_words_Get64 : ∀ (args : Array Value) (w : World), (callFunc 52 args).run Tryd.prog w = .ok (.enter 52 args) w := fun args w => Tryd.call52 args w
theorem cl_words_Put32 : ∀ (args : Array Value) (w : World), (callFunc 67 args).run Tryd.prog w = .ok (.enter 67 args) w := fun args w => Tryd.call67 args w
theorem cl_words_Put64 : ∀ (args : Array Value) (w : World), (callFunc 51 args).run Tryd.prog w = .ok (.enter 51 args) w := fun args w => Tryd.call51 args w
theorem cl_words_Rot : ∀ (args : Array Value) (w : World), (callFunc 98 args).run Tryd.prog w = .ok (.enter 98 args) w := fun args w => Tryd.call98 args w
theorem cl_words_get : ∀ (args : Array Value) (w : World), (callFunc 68 args).run Tryd.prog w = .ok (.enter 68 args) w := fun args w => Tryd.call68 args w
theorem fn_beacon_New : Tryd.prog.funcs[30]? = some Tryd.f30 := Tryd.func30
theorem fn_beacon_Stream_Word : Tryd.prog.funcs[34]? = some Tryd.f34 := Tryd.func34
theorem fn_group_Base : Tryd.prog.funcs[23]? = some Tryd.f23 := Tryd.func23
theorem fn_group_Bytes : Tryd.prog.funcs[53]? = some Tryd.f53 := Tryd.func53
theorem fn_group_Product : Tryd.prog.funcs[20]? = some Tryd.f20 := Tryd.func20
theorem fn_group_Right : Tryd.prog.funcs[35]? = some Tryd.f35 := Tryd.func35
theorem fn_group_Times : Tryd.prog.funcs[22]? = some Tryd.f22 := Tryd.func22
theorem fn_internal_strconv_FormatInt : Tryd.prog.funcs[73]? = some Tryd.f73 := Tryd.func73
theorem fn_internal_strconv_Itoa : Tryd.prog.funcs[65]? = some Tryd.f65 := Tryd.func65
theorem fn_internal_strconv_small : Tryd.prog.funcs[83]? = some Tryd.f83 := Tryd.func83
theorem fn_keys_Chain : Tryd.prog.funcs[7]? = some Tryd.f7 := Tryd.func7
theorem fn_keys_Check : Tryd.prog.funcs[10]? = some Tryd.f10 := Tryd.func10
theorem fn_keys_Inner : Tryd.prog.funcs[11]? = some Tryd.f11 := Tryd.func11
theorem fn_keys_Make : Tryd.prog.funcs[18]? = some Tryd.f18 := Tryd.func18
theorem fn_keys_Make_1 : Tryd.prog.funcs[32]? = some Tryd.f32 := Tryd.func32
theorem fn_keys_Named : Tryd.prog.funcs[31]? = some Tryd.f31 := Tryd.func31
theorem fn_keys_Tell : Tryd.prog.funcs[13]? = some Tryd.f13 := Tryd.func13
theorem fn_keys_draw : Tryd.prog.funcs[25]? = some Tryd.f25 := Tryd.func25
theorem fn_law16_KeysCheck : Tryd.prog.funcs[4]? = some Tryd.f4 := Tryd.func4
theorem fn_law16_KeysInner : Tryd.prog.funcs[5]? = some Tryd.f5 := Tryd.func5
theorem fn_law16_KeysTell : Tryd.prog.funcs[3]? = some Tryd.f3 := Tryd.func3
theorem fn_law16_alive : Tryd.prog.funcs[6]? = some Tryd.f6 := Tryd.func6
theorem fn_math_bits_Div64 : Tryd.prog.funcs[78]? = some Tryd.f78 := Tryd.func78
theorem fn_math_bits_LeadingZeros64 : Tryd.prog.funcs[89]? = some Tryd.f89 := Tryd.func89
theorem fn_math_bits_Len64 : Tryd.prog.funcs[93]? = some Tryd.f93 := Tryd.func93
theorem fn_math_bits_Mul64 : Tryd.prog.funcs[55]? = some Tryd.f55 := Tryd.func55
theorem fn_math_bits_Rem64 : Tryd.prog.funcs[70]? = some Tryd.f70 := Tryd.func70
theorem fn_modp_Mul : Tryd.prog.funcs[39]? = some Tryd.f39 := Tryd.func39
theorem fn_modp_Pow : Tryd.prog.funcs[42]? = some Tryd.f42 := Tryd.func42
theorem fn_modp_Reduce : Tryd.prog.funcs[56]? = some Tryd.f56 := Tryd.func56
theorem fn_proof_Answer : Tryd.prog.funcs[43]? = some Tryd.f43 := Tryd.func43
theorem fn_proof_Back : Tryd.prog.funcs[38]? = some Tryd.f38 := Tryd.func38
theorem fn_proof_Challenge : Tryd.prog.funcs[37]? = some Tryd.f37 := Tryd.func37
theorem fn_proof_CheckKnow : Tryd.prog.funcs[19]? = some Tryd.f19 := Tryd.func19
theorem fn_proof_Know : Tryd.prog.funcs[24]? = some Tryd.f24 := Tryd.func24
theorem fn_proof_Right : Tryd.prog.funcs[36]? = some Tryd.f36 := Tryd.func36
theorem fn_ref12_Chain : Tryd.prog.funcs[9]? = some Tryd.f9 := Tryd.func9
theorem fn_ref12_CheckChain : Tryd.prog.funcs[15]? = some Tryd.f15 := Tryd.func15
theorem fn_ref12_Inner : Tryd.prog.funcs[12]? = some Tryd.f12 := Tryd.func12
theorem fn_ref12_SamePublics : Tryd.prog.funcs[8]? = some Tryd.f8 := Tryd.func8
theorem fn_ref12_Tell : Tryd.prog.funcs[14]? = some Tryd.f14 := Tryd.func14
theorem fn_ref12_draw : Tryd.prog.funcs[28]? = some Tryd.f28 := Tryd.func28
theorem fn_ref1_AddN : Tryd.prog.funcs[16]? = some Tryd.f16 := Tryd.func16
theorem fn_ref1_Base : Tryd.prog.funcs[17]? = some Tryd.f17 := Tryd.func17
theorem fn_ref1_Bytes : Tryd.prog.funcs[60]? = some Tryd.f60 := Tryd.func60
theorem fn_ref1_Challenge : Tryd.prog.funcs[45]? = some Tryd.f45 := Tryd.func45
theorem fn_ref1_CheckKnow : Tryd.prog.funcs[29]? = some Tryd.f29 := Tryd.func29
theorem fn_ref1_Get32 : Tryd.prog.funcs[81]? = some Tryd.f81 := Tryd.func81
theorem fn_ref1_Know : Tryd.prog.funcs[27]? = some Tryd.f27 := Tryd.func27
theorem fn_ref1_MulN : Tryd.prog.funcs[64]? = some Tryd.f64 := Tryd.func64
theorem fn_ref1_MulP : Tryd.prog.funcs[41]? = some Tryd.f41 := Tryd.func41
theorem fn_ref1_OfN : Tryd.prog.funcs[62]? = some Tryd.f62 := Tryd.func62
theorem fn_ref1_Parts : Tryd.prog.funcs[61]? = some Tryd.f61 := Tryd.func61
theorem fn_ref1_PowP : Tryd.prog.funcs[44]? = some Tryd.f44 := Tryd.func44
theorem fn_ref1_Product : Tryd.prog.funcs[21]? = some Tryd.f21 := Tryd.func21
theorem fn_ref1_Put32 : Tryd.prog.funcs[79]? = some Tryd.f79 := Tryd.func79
theorem fn_ref1_Put64 : Tryd.prog.funcs[71]? = some Tryd.f71 := Tryd.func71
theorem fn_ref1_Right : Tryd.prog.funcs[40]? = some Tryd.f40 := Tryd.func40
theorem fn_ref1_Rot : Tryd.prog.funcs[99]? = some Tryd.f99 := Tryd.func99
theorem fn_ref1_Sha : Tryd.prog.funcs[72]? = some Tryd.f72 := Tryd.func72
theorem fn_ref1_SubN : Tryd.prog.funcs[63]? = some Tryd.f63 := Tryd.func63
theorem fn_ref1_Times : Tryd.prog.funcs[26]? = some Tryd.f26 := Tryd.func26
theorem fn_ref1_Written : Tryd.prog.funcs[80]? = some Tryd.f80 := Tryd.func80
theorem fn_ref1_answer : Tryd.prog.funcs[46]? = some Tryd.f46 := Tryd.func46
theorem fn_ref1_back : Tryd.prog.funcs[48]? = some Tryd.f48 := Tryd.func48
theorem fn_ref1_get : Tryd.prog.funcs[90]? = some Tryd.f90 := Tryd.func90
theorem fn_ref1_mixed : Tryd.prog.funcs[82]? = some Tryd.f82 := Tryd.func82
theorem fn_ref1_small : Tryd.prog.funcs[47]? = some Tryd.f47 := Tryd.func47
theorem fn_ref1_turn : Tryd.prog.funcs[91]? = some Tryd.f91 := Tryd.func91
theorem fn_ref1_wide : Tryd.prog.funcs[57]? = some Tryd.f57 := Tryd.func57
theorem fn_scalar_Add : Tryd.prog.funcs[69]? = some Tryd.f69 := Tryd.func69
theorem fn_scalar_Mul : Tryd.prog.funcs[59]? = some Tryd.f59 := Tryd.func59
theorem fn_scalar_Of : Tryd.prog.funcs[54]? = some Tryd.f54 := Tryd.func54
theorem fn_scalar_Reduce : Tryd.prog.funcs[33]? = some Tryd.f33 := Tryd.func33
theorem fn_scalar_Sub : Tryd.prog.funcs[58]? = some Tryd.f58 := Tryd.func58
theorem fn_sha_Parts : Tryd.prog.funcs[50]? = some Tryd.f50 := Tryd.func50
theorem fn_sha_Sum : Tryd.prog.funcs[66]? = some Tryd.f66 := Tryd.func66
theorem fn_sha_first : Tryd.prog.funcs[74]? = some Tryd.f74 := Tryd.func74
theorem fn_sha_mix : Tryd.prog.funcs[77]? = some Tryd.f77 := Tryd.func77
theorem fn_sha_numbers : Tryd.prog.funcs[75]? = some Tryd.f75 := Tryd.func75
theorem fn_sha_padded : Tryd.prog.funcs[76]? = some Tryd.f76 := Tryd.func76
theorem fn_sha_schedule : Tryd.prog.funcs[87]? = some Tryd.f87 := Tryd.func87
theorem fn_sha_step : Tryd.prog.funcs[88]? = some Tryd.f88 := Tryd.func88
theorem fn_strconv_Itoa : Tryd.prog.funcs[49]? = some Tryd.f49 := Tryd.func49
theorem fn_words_Get32 : Tryd.prog.funcs[97]? = some Tryd.f97 := Tryd.func97
theorem fn_words_Get64 : Tryd.prog.funcs[52]? = some Tryd.f52 := Tryd.func52
theorem fn_words_Put32 : Tryd.prog.funcs[67]? = some Tryd.f67 := Tryd.func67
theorem fn_words_Put64 : Tryd.prog.funcs[51]? = some Tryd.f51 := Tryd.func51
theorem fn_words_Rot : Tryd.prog.funcs[98]? = some Tryd.f98 := Tryd.func98
theorem fn_words_get : Tryd.prog.funcs[68]? = some Tryd.f68 := Tryd.func68
theorem i_a64_uint32 : (Tryd.prog.info? 83).map (fun i => (i.zero, i.size, i.bytes)) = some (some (.agg #[.int .u32 0, .int .u32 0, .int .u32 0, .int .u32 0, .int .u32 0, .int .u32 0, .int .u32 0, .int .u32 0, .int .u32 0, .int .u32 0, .int .u32 0, .int .u32 0, .int .u32 0, .int .u32 0, .int .u32 0, .int .u32 0, .int .u32 0, .int .u32 0, .int .u32 0, .int .u32 0, .int .u32 0, .int .u32 0, .int .u32 0, .int .u32 0, .int .u32 0, .int .u32 0, .int .u32 0, .int .u32 0, .int .u32 0, .int .u32 0, .int .u32 0, .int .u32 0, .int .u32 0, .int .u32 0, .int .u32 0, .int .u32 0, .int .u32 0, .int .u32 0, .int .u32 0, .int .u32 0, .int .u32 0, .int .u32 0, .int .u32 0, .int .u32 0, .int .u32 0, .int .u32 0, .int .u32 0, .int .u32 0, .int .u32 0, .int .u32 0, .int .u32 0, .int .u32 0, .int .u32 0, .int .u32 0, .int .u32 0, .int .u32 0, .int .u32 0, .int .u32 0, .int .u32 0, .int .u32 0, .int .u32 0, .int .u32 0, .int .u32 0, .int .u32 0]), 64, 256) := by kernel_rfl
theorem i_a8_uint32 : (Tryd.prog.info? 81).map (fun i => (i.zero, i.size, i.bytes)) = some (some (.agg #[.int .u32 0, .int .u32 0, .int .u32 0, .int .u32 0, .int .u32 0, .int .u32 0, .int .u32 0, .int .u32 0]), 8, 32) := by kernel_rfl
theorem i_api_Key : (Tryd.prog.info? 46).map (fun i => (i.zero, i.size, i.bytes)) = some (some (.agg #[.int .u8 0, .int .u8 0, .int .u8 0, .int .u8 0, .int .u8 0, .int .u8 0, .int .u8 0, .int .u8 0, .int .u8 0, .int .u8 0, .int .u8 0, .int .u8 0, .int .u8 0, .int .u8 0, .int .u8 0, .int .u8 0, .int .u8 0, .int .u8 0, .int .u8 0, .int .u8 0, .int .u8 0, .int .u8 0, .int .u8 0, .int .u8 0, .int .u8 0, .int .u8 0, .int .u8 0, .int .u8 0, .int .u8 0, .int .u8 0, .int .u8 0, .int .u8 0]), 32, 32) := by kernel_rfl
theorem i_api_Proof : (Tryd.prog.info? 33).map (fun i => (i.zero, i.size, i.bytes)) = some (some (.agg #[.int .u64 0, .int .u64 0]), 2, 16) := by kernel_rfl
theorem i_api_Public : (Tryd.prog.info? 35).map (fun i => (i.zero, i.size, i.bytes)) = some (some (.agg #[.int .u64 0, .int .u64 0, .int .u64 0, .int .u64 0, .int .u64 0, .int .u64 0, .int .u64 0, .int .u64 0, .int .u64 0, .int .u64 0]), 10, 80) := by kernel_rfl
theorem i_api_Secrets : (Tryd.prog.info? 38).map (fun i => (i.zero, i.size, i.bytes)) = some (some (.agg #[.int .u64 0, .int .u64 0, .int .u64 0]), 3, 24) := by kernel_rfl
theorem i_beacon_Stream : (Tryd.prog.info? 61).map (fun i => (i.zero, i.size, i.bytes)) = some (some (.agg #[.int .u8 0, .int .u8 0, .int .u8 0, .int .u8 0, .int .u8 0, .int .u8 0, .int .u8 0, .int .u8 0, .int .u8 0, .int .u8 0, .int .u8 0, .int .u8 0, .int .u8 0, .int .u8 0, .int .u8 0, .int .u8 0, .int .u8 0, .int .u8 0, .int .u8 0, .int .u8 0, .int .u8 0, .int .u8 0, .int .u8 0, .int .u8 0, .int .u8 0, .int .u8 0, .int .u8 0, .int .u8 0, .int .u8 0, .int .u8 0, .int .u8 0, .int .u8 0, .string .empty, .int .u64 0, .int .u8 0, .int .u8 0, .int .u8 0, .int .u8 0, .int .u8 0, .int .u8 0, .int .u8 0, .int .u8 0, .int .u8 0, .int .u8 0, .int .u8 0, .int .u8 0, .int .u8 0, .int .u8 0, .int .u8 0, .int .u8 0, .int .u8 0, .int .u8 0, .int .u8 0, .int .u8 0, .int .u8 0, .int .u8 0, .int .u8 0, .int .u8 0, .int .u8 0, .int .u8 0, .int .u8 0, .int .u8 0, .int .u8 0, .int .u8 0, .int .u8 0, .int .u8 0]), 66, 88) := by kernel_rfl
theorem i_int : (Tryd.prog.info? 3).map (fun i => (i.zero, i.size, i.bytes)) = some (some (.int .i64 0), 1, 8) := by kernel_rfl
theorem i_p_beacon_Stream : (Tryd.prog.info? 51).map (fun i => (i.zero, i.size, i.bytes)) = some (some (.pointer none), 1, 8) := by kernel_rfl
theorem i_sl_uint64 : (Tryd.prog.info? 31).map (fun i => (i.zero, i.size, i.bytes)) = some (some (.slice none 0 0), 1, 24) := by kernel_rfl
theorem i_sl_uint8 : (Tryd.prog.info? 65).map (fun i => (i.zero, i.size, i.bytes)) = some (some (.slice none 0 0), 1, 24) := by kernel_rfl
theorem i_string : (Tryd.prog.info? 9).map (fun i => (i.zero, i.size, i.bytes)) = some (some (.string .empty), 1, 16) := by kernel_rfl
theorem i_uint32 : (Tryd.prog.info? 78).map (fun i => (i.zero, i.size, i.bytes)) = some (some (.int .u32 0), 1, 4) := by kernel_rfl
theorem i_uint64 : (Tryd.prog.info? 24).map (fun i => (i.zero, i.size, i.bytes)) = some (some (.int .u64 0), 1, 8) := by kernel_rfl
theorem i_uint8 : (Tryd.prog.info? 5).map (fun i => (i.zero, i.size, i.bytes)) = some (some (.int .u8 0), 1, 1) := by kernel_rfl
theorem u_a64_uint32 : Tryd.prog.underlying 83 = some (.array 64 78) := Tryd.underlying83
theorem u_a8_uint32 : Tryd.prog.underlying 81 = some (.array 8 78) := Tryd.underlying81
theorem u_api_Key : Tryd.prog.underlying 46 = some (.array 32 5) := Tryd.underlying46
theorem u_api_Proof : Tryd.prog.underlying 33 = some (.struct #[⟨ "C", 24, 0, false, "", "", 0⟩, ⟨ "S", 24, 1, false, "", "", 8⟩]) := Tryd.underlying33
theorem u_api_Public : Tryd.prog.underlying 35 = some (.struct #[⟨ "Base", 24, 0, false, "", "", 0⟩, ⟨ "Blind", 24, 1, false, "", "", 8⟩, ⟨ "Mix", 24, 2, false, "", "", 16⟩, ⟨ "Inner", 24, 3, false, "", "", 24⟩, ⟨ "ByBlind", 33, 4, false, "", "", 32⟩, ⟨ "ByMix", 33, 6, false, "", "", 48⟩, ⟨ "ByInner", 33, 8, false, "", "", 64⟩]) := Tryd.underlying35
theorem u_api_Secrets : Tryd.prog.underlying 38 = some (.struct #[⟨ "Blind", 24, 0, false, "", "", 0⟩, ⟨ "Mix", 24, 1, false, "", "", 8⟩, ⟨ "Inner", 24, 2, false, "", "", 16⟩]) := Tryd.underlying38
theorem u_beacon_Stream : Tryd.prog.underlying 61 = some (.struct #[⟨ "seed", 46, 0, false, "", "courierbag/beacon", 0⟩, ⟨ "name", 9, 32, false, "", "courierbag/beacon", 32⟩, ⟨ "next", 24, 33, false, "", "courierbag/beacon", 48⟩, ⟨ "sum", 46, 34, false, "", "courierbag/beacon", 56⟩]) := Tryd.underlying61
theorem u_bool : Tryd.prog.underlying 4 = some (.bool) := Tryd.underlying4
theorem u_int : Tryd.prog.underlying 3 = some (.int .i64) := Tryd.underlying3
theorem u_p_beacon_Stream : Tryd.prog.underlying 51 = some (.pointer 61) := Tryd.underlying51
theorem u_sl_api_Public : Tryd.prog.underlying 26 = some (.slice 35) := Tryd.underlying26
theorem u_sl_api_Secrets : Tryd.prog.underlying 22 = some (.slice 38) := Tryd.underlying22
theorem u_sl_int : Tryd.prog.underlying 62 = some (.slice 3) := Tryd.underlying62
theorem u_sl_sl_uint64 : Tryd.prog.underlying 23 = some (.slice 31) := Tryd.underlying23
theorem u_sl_sl_uint8 : Tryd.prog.underlying 67 = some (.slice 65) := Tryd.underlying67
theorem u_sl_uint32 : Tryd.prog.underlying 88 = some (.slice 78) := Tryd.underlying88
theorem u_sl_uint64 : Tryd.prog.underlying 31 = some (.slice 24) := Tryd.underlying31
theorem u_sl_uint8 : Tryd.prog.underlying 65 = some (.slice 5) := Tryd.underlying65
theorem u_string : Tryd.prog.underlying 9 = some (.string) := Tryd.underlying9
theorem u_uint : Tryd.prog.underlying 75 = some (.int .u64) := Tryd.underlying75
theorem u_uint32 : Tryd.prog.underlying 78 = some (.int .u32) := Tryd.underlying78
theorem u_uint64 : Tryd.prog.underlying 24 = some (.int .u64) := Tryd.underlying24
theorem u_uint8 : Tryd.prog.underlying 5 = some (.int .u8) := Tryd.underlying5
theorem pl_api_Proof : ∀ w, Sem.run Tryd.prog ((#[⟨ "C", 24, 0, false, "", "", 0⟩, ⟨ "S", 24, 1, false, "", "", 8⟩] : Array Field).mapM fun (f : Field) => (do pure (f.offset, ← sizeOf f.type) : Sem (Nat × Nat))) w = .ok ([(0, 1), (1, 1)] : List (Nat × Nat)).toArray w := fun w => by kernel_rfl
theorem pl_api_Public : ∀ w, Sem.run Tryd.prog ((#[⟨ "Base", 24, 0, false, "", "", 0⟩, ⟨ "Blind", 24, 1, false, "", "", 8⟩, ⟨ "Mix", 24, 2, false, "", "", 16⟩, ⟨ "Inner", 24, 3, false, "", "", 24⟩, ⟨ "ByBlind", 33, 4, false, "", "", 32⟩, ⟨ "ByMix", 33, 6, false, "", "", 48⟩, ⟨ "ByInner", 33, 8, false, "", "", 64⟩] : Array Field).mapM fun (f : Field) => (do pure (f.offset, ← sizeOf f.type) : Sem (Nat × Nat))) w = .ok ([(0, 1), (1, 1), (2, 1), (3, 1), (4, 2), (6, 2), (8, 2)] : List (Nat × Nat)).toArray w := fun w => by kernel_rfl
theorem pl_api_Secrets : ∀ w, Sem.run Tryd.prog ((#[⟨ "Blind", 24, 0, false, "", "", 0⟩, ⟨ "Mix", 24, 1, false, "", "", 8⟩, ⟨ "Inner", 24, 2, false, "", "", 16⟩] : Array Field).mapM fun (f : Field) => (do pure (f.offset, ← sizeOf f.type) : Sem (Nat × Nat))) w = .ok ([(0, 1), (1, 1), (2, 1)] : List (Nat × Nat)).toArray w := fun w => by kernel_rfl
theorem pl_beacon_Stream : ∀ w, Sem.run Tryd.prog ((#[⟨ "seed", 46, 0, false, "", "courierbag/beacon", 0⟩, ⟨ "name", 9, 32, false, "", "courierbag/beacon", 32⟩, ⟨ "next", 24, 33, false, "", "courierbag/beacon", 48⟩, ⟨ "sum", 46, 34, false, "", "courierbag/beacon", 56⟩] : Array Field).mapM fun (f : Field) => (do pure (f.offset, ← sizeOf f.type) : Sem (Nat × Nat))) w = .ok ([(0, 32), (32, 1), (33, 1), (34, 32)] : List (Nat × Nat)).toArray w := fun w => by kernel_rfl
end Go.Proofs.YtdaphjnenookiaaDoor
