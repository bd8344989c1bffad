import Derived.Test.YtphadkcpgnkpfaaGreatDoorProg
import Derived.KernelRfl
import Derived.Test.YtphadkcpgnkpfaaGreatDoorQT10
namespace Go.Proofs.YtphadkcpgnkpfaaGreatDoor
open Go Pm
theorem tb_tk_0 : tk Tryz.prog 0 = TK.other := by kernel_rfl
theorem tb_loadK_0 : loadK Tryz.prog 0 = some (false, 1) := by kernel_rfl
theorem tb_zeroK_0 : zeroK Tryz.prog 0 = some [Value.tuple { toList := [] }] := by kernel_rfl
theorem tb_bytesK_0 : bytesK Tryz.prog 0 = some 0 := by kernel_rfl
theorem tb_sliceElem_0 : sliceElem Tryz.prog 0 = none := by kernel_rfl
theorem tb_arrElem_0 : arrElem Tryz.prog 0 = none := by kernel_rfl
theorem tb_byteEl_0 : byteEl Tryz.prog 0 = false := by kernel_rfl
theorem tb_tk_1 : tk Tryz.prog 1 = TK.other := by kernel_rfl
theorem tb_loadK_1 : loadK Tryz.prog 1 = some (false, 1) := by kernel_rfl
theorem tb_zeroK_1 : zeroK Tryz.prog 1 = some [Value.nilFunc] := by kernel_rfl
theorem tb_bytesK_1 : bytesK Tryz.prog 1 = some 8 := by kernel_rfl
theorem tb_sliceElem_1 : sliceElem Tryz.prog 1 = none := by kernel_rfl
theorem tb_arrElem_1 : arrElem Tryz.prog 1 = none := by kernel_rfl
theorem tb_byteEl_1 : byteEl Tryz.prog 1 = false := by kernel_rfl
theorem tb_tk_2 : tk Tryz.prog 2 = TK.int IntKind.i64 := by kernel_rfl
theorem tb_loadK_2 : loadK Tryz.prog 2 = some (false, 1) := by kernel_rfl
theorem tb_zeroK_2 : zeroK Tryz.prog 2 = some [Value.int IntKind.i64 0] := by kernel_rfl
theorem tb_bytesK_2 : bytesK Tryz.prog 2 = some 8 := by kernel_rfl
theorem tb_byteEl_2 : byteEl Tryz.prog 2 = false := by kernel_rfl
theorem tb_tk_3 : tk Tryz.prog 3 = TK.int IntKind.i64 := by kernel_rfl
theorem tb_loadK_3 : loadK Tryz.prog 3 = some (false, 1) := by kernel_rfl
theorem tb_zeroK_3 : zeroK Tryz.prog 3 = some [Value.int IntKind.i64 0] := by kernel_rfl
theorem tb_bytesK_3 : bytesK Tryz.prog 3 = some 8 := by kernel_rfl
theorem tb_byteEl_3 : byteEl Tryz.prog 3 = false := by kernel_rfl
theorem tb_tk_4 : tk Tryz.prog 4 = TK.bool := by kernel_rfl
theorem tb_loadK_4 : loadK Tryz.prog 4 = some (false, 1) := by kernel_rfl
theorem tb_zeroK_4 : zeroK Tryz.prog 4 = some [Value.bool false] := by kernel_rfl
theorem tb_bytesK_4 : bytesK Tryz.prog 4 = some 1 := by kernel_rfl
theorem tb_byteEl_4 : byteEl Tryz.prog 4 = false := by kernel_rfl
theorem tb_tk_5 : tk Tryz.prog 5 = TK.int IntKind.u8 := by kernel_rfl
theorem tb_loadK_5 : loadK Tryz.prog 5 = some (false, 1) := by kernel_rfl
theorem tb_zeroK_5 : zeroK Tryz.prog 5 = some [Value.int IntKind.u8 0] := by kernel_rfl
theorem tb_bytesK_5 : bytesK Tryz.prog 5 = some 1 := by kernel_rfl
theorem tb_byteEl_5 : byteEl Tryz.prog 5 = false := by kernel_rfl
theorem tb_tk_6 : tk Tryz.prog 6 = TK.int IntKind.u8 := by kernel_rfl
theorem tb_loadK_6 : loadK Tryz.prog 6 = some (false, 1) := by kernel_rfl
theorem tb_zeroK_6 : zeroK Tryz.prog 6 = some [Value.int IntKind.u8 0] := by kernel_rfl
theorem tb_bytesK_6 : bytesK Tryz.prog 6 = some 1 := by kernel_rfl
theorem tb_byteEl_6 : byteEl Tryz.prog 6 = false := by kernel_rfl
theorem tb_tk_7 : tk Tryz.prog 7 = TK.other := by kernel_rfl
theorem tb_loadK_7 : loadK Tryz.prog 7 = some (true, 4) := by kernel_rfl
theorem tb_zeroK_7 : zeroK Tryz.prog 7 = some [Value.int IntKind.i64 0, Value.int IntKind.i64 0, Value.bool false, Value.int IntKind.u8 0] := by kernel_rfl
theorem tb_bytesK_7 : bytesK Tryz.prog 7 = some 24 := by kernel_rfl
theorem tb_sliceElem_7 : sliceElem Tryz.prog 7 = none := by kernel_rfl
theorem tb_arrElem_7 : arrElem Tryz.prog 7 = none := by kernel_rfl
theorem tb_placesK_7 : placesK Tryz.prog 7 = some [(0, 1), (1, 1), (2, 1), (3, 1)] := by kernel_rfl
theorem tb_byteEl_7 : byteEl Tryz.prog 7 = false := by kernel_rfl
theorem tb_flatK_7 : flatK Tryz.prog 7 = some [TypeDesc.int IntKind.i64, TypeDesc.int IntKind.i64, TypeDesc.bool, TypeDesc.int IntKind.u8] := by kernel_rfl
theorem tb_fieldK_7_0 : fieldK Tryz.prog 7 0 = some (0, false, 1) := by kernel_rfl
theorem tb_fieldK_7_1 : fieldK Tryz.prog 7 1 = some (1, false, 1) := by kernel_rfl
theorem tb_fieldK_7_2 : fieldK Tryz.prog 7 2 = some (2, false, 1) := by kernel_rfl
theorem tb_fieldK_7_3 : fieldK Tryz.prog 7 3 = some (3, false, 1) := by kernel_rfl
theorem tb_tk_8 : tk Tryz.prog 8 = TK.other := by kernel_rfl
theorem tb_loadK_8 : loadK Tryz.prog 8 = some (true, 4) := by kernel_rfl
theorem tb_zeroK_8 : zeroK Tryz.prog 8 = some [Value.int IntKind.i64 0, Value.int IntKind.i64 0, Value.bool false, Value.int IntKind.u8 0] := by kernel_rfl
theorem tb_bytesK_8 : bytesK Tryz.prog 8 = some 24 := by kernel_rfl
theorem tb_sliceElem_8 : sliceElem Tryz.prog 8 = none := by kernel_rfl
theorem tb_arrElem_8 : arrElem Tryz.prog 8 = none := by kernel_rfl
theorem tb_placesK_8 : placesK Tryz.prog 8 = some [(0, 1), (1, 1), (2, 1), (3, 1)] := by kernel_rfl
theorem tb_byteEl_8 : byteEl Tryz.prog 8 = false := by kernel_rfl
theorem tb_flatK_8 : flatK Tryz.prog 8 = some [TypeDesc.int IntKind.i64, TypeDesc.int IntKind.i64, TypeDesc.bool, TypeDesc.int IntKind.u8] := by kernel_rfl
theorem tb_fieldK_8_0 : fieldK Tryz.prog 8 0 = some (0, false, 1) := by kernel_rfl
theorem tb_fieldK_8_1 : fieldK Tryz.prog 8 1 = some (1, false, 1) := by kernel_rfl
theorem tb_fieldK_8_2 : fieldK Tryz.prog 8 2 = some (2, false, 1) := by kernel_rfl
theorem tb_fieldK_8_3 : fieldK Tryz.prog 8 3 = some (3, false, 1) := by kernel_rfl
theorem tb_tk_9 : tk Tryz.prog 9 = TK.str := by kernel_rfl
theorem tb_loadK_9 : loadK Tryz.prog 9 = some (false, 1) := by kernel_rfl
theorem tb_zeroK_9 : zeroK Tryz.prog 9 = some [Value.string ByteArray.empty] := by kernel_rfl
theorem tb_bytesK_9 : bytesK Tryz.prog 9 = some 16 := by kernel_rfl
theorem tb_byteEl_9 : byteEl Tryz.prog 9 = false := by kernel_rfl
theorem tb_arrLoad_9 : arrLoad Tryz.prog 9 = none := by kernel_rfl
theorem tb_tk_10 : tk Tryz.prog 10 = TK.str := by kernel_rfl
theorem tb_loadK_10 : loadK Tryz.prog 10 = some (false, 1) := by kernel_rfl
theorem tb_zeroK_10 : zeroK Tryz.prog 10 = some [Value.string ByteArray.empty] := by kernel_rfl
theorem tb_bytesK_10 : bytesK Tryz.prog 10 = some 16 := by kernel_rfl
theorem tb_byteEl_10 : byteEl Tryz.prog 10 = false := by kernel_rfl
theorem tb_arrLoad_10 : arrLoad Tryz.prog 10 = none := by kernel_rfl
theorem tb_tk_11 : tk Tryz.prog 11 = TK.str := by kernel_rfl
theorem tb_loadK_11 : loadK Tryz.prog 11 = some (false, 1) := by kernel_rfl
theorem tb_zeroK_11 : zeroK Tryz.prog 11 = some [Value.string ByteArray.empty] := by kernel_rfl
theorem tb_bytesK_11 : bytesK Tryz.prog 11 = some 16 := by kernel_rfl
theorem tb_byteEl_11 : byteEl Tryz.prog 11 = false := by kernel_rfl
theorem tb_arrLoad_11 : arrLoad Tryz.prog 11 = none := by kernel_rfl
theorem tb_tk_12 : tk Tryz.prog 12 = TK.int IntKind.u64 := by kernel_rfl
theorem tb_loadK_12 : loadK Tryz.prog 12 = some (false, 1) := by kernel_rfl
theorem tb_zeroK_12 : zeroK Tryz.prog 12 = some [Value.int IntKind.u64 0] := by kernel_rfl
theorem tb_bytesK_12 : bytesK Tryz.prog 12 = some 8 := by kernel_rfl
theorem tb_byteEl_12 : byteEl Tryz.prog 12 = false := by kernel_rfl
theorem tb_tk_13 : tk Tryz.prog 13 = TK.other := by kernel_rfl
theorem tb_loadK_13 : loadK Tryz.prog 13 = some (true, 2) := by kernel_rfl
theorem tb_zeroK_13 : zeroK Tryz.prog 13 = some [Value.string ByteArray.empty, Value.int IntKind.u64 0] := by kernel_rfl
theorem tb_bytesK_13 : bytesK Tryz.prog 13 = some 24 := by kernel_rfl
theorem tb_sliceElem_13 : sliceElem Tryz.prog 13 = none := by kernel_rfl
theorem tb_arrElem_13 : arrElem Tryz.prog 13 = none := by kernel_rfl
theorem tb_placesK_13 : placesK Tryz.prog 13 = some [(0, 1), (1, 1)] := by kernel_rfl
theorem tb_byteEl_13 : byteEl Tryz.prog 13 = false := by kernel_rfl
theorem tb_fieldK_13_0 : fieldK Tryz.prog 13 0 = some (0, false, 1) := by kernel_rfl
theorem tb_fieldK_13_1 : fieldK Tryz.prog 13 1 = some (1, false, 1) := by kernel_rfl
theorem tb_tk_14 : tk Tryz.prog 14 = TK.other := by kernel_rfl
theorem tb_loadK_14 : loadK Tryz.prog 14 = some (true, 2) := by kernel_rfl
theorem tb_zeroK_14 : zeroK Tryz.prog 14 = some [Value.string ByteArray.empty, Value.int IntKind.u64 0] := by kernel_rfl
theorem tb_bytesK_14 : bytesK Tryz.prog 14 = some 24 := by kernel_rfl
theorem tb_sliceElem_14 : sliceElem Tryz.prog 14 = none := by kernel_rfl
theorem tb_arrElem_14 : arrElem Tryz.prog 14 = none := by kernel_rfl
theorem tb_placesK_14 : placesK Tryz.prog 14 = some [(0, 1), (1, 1)] := by kernel_rfl
theorem tb_byteEl_14 : byteEl Tryz.prog 14 = false := by kernel_rfl
theorem tb_fieldK_14_0 : fieldK Tryz.prog 14 0 = some (0, false, 1) := by kernel_rfl
theorem tb_fieldK_14_1 : fieldK Tryz.prog 14 1 = some (1, false, 1) := by kernel_rfl
theorem tb_tk_15 : tk Tryz.prog 15 = TK.ptr := by kernel_rfl
theorem tb_loadK_15 : loadK Tryz.prog 15 = some (false, 1) := by kernel_rfl
theorem tb_zeroK_15 : zeroK Tryz.prog 15 = some [Value.pointer none] := by kernel_rfl
theorem tb_bytesK_15 : bytesK Tryz.prog 15 = some 8 := by kernel_rfl
theorem tb_sliceElem_15 : sliceElem Tryz.prog 15 = none := by kernel_rfl
theorem tb_arrElem_15 : arrElem Tryz.prog 15 = none := by kernel_rfl
theorem tb_byteEl_15 : byteEl Tryz.prog 15 = false := by kernel_rfl
theorem tb_tk_16 : tk Tryz.prog 16 = TK.ptr := by kernel_rfl
theorem tb_loadK_16 : loadK Tryz.prog 16 = some (false, 1) := by kernel_rfl
theorem tb_zeroK_16 : zeroK Tryz.prog 16 = some [Value.pointer none] := by kernel_rfl
theorem tb_bytesK_16 : bytesK Tryz.prog 16 = some 8 := by kernel_rfl
theorem tb_sliceElem_16 : sliceElem Tryz.prog 16 = none := by kernel_rfl
theorem tb_arrElem_16 : arrElem Tryz.prog 16 = none := by kernel_rfl
theorem tb_byteEl_16 : byteEl Tryz.prog 16 = false := by kernel_rfl
theorem tb_tk_17 : tk Tryz.prog 17 = TK.ptr := by kernel_rfl
theorem tb_loadK_17 : loadK Tryz.prog 17 = some (false, 1) := by kernel_rfl
theorem tb_zeroK_17 : zeroK Tryz.prog 17 = some [Value.pointer none] := by kernel_rfl
theorem tb_bytesK_17 : bytesK Tryz.prog 17 = some 8 := by kernel_rfl
theorem tb_sliceElem_17 : sliceElem Tryz.prog 17 = none := by kernel_rfl
theorem tb_arrElem_17 : arrElem Tryz.prog 17 = none := by kernel_rfl
theorem tb_byteEl_17 : byteEl Tryz.prog 17 = false := by kernel_rfl
theorem tb_tk_18 : tk Tryz.prog 18 = TK.other := by kernel_rfl
theorem tb_loadK_18 : loadK Tryz.prog 18 = some (true, 1) := by kernel_rfl
theorem tb_zeroK_18 : zeroK Tryz.prog 18 = some [Value.pointer none] := by kernel_rfl
theorem tb_bytesK_18 : bytesK Tryz.prog 18 = some 8 := by kernel_rfl
theorem tb_sliceElem_18 : sliceElem Tryz.prog 18 = none := by kernel_rfl
theorem tb_arrElem_18 : arrElem Tryz.prog 18 = none := by kernel_rfl
theorem tb_placesK_18 : placesK Tryz.prog 18 = some [(0, 1)] := by kernel_rfl
theorem tb_byteEl_18 : byteEl Tryz.prog 18 = false := by kernel_rfl
theorem tb_fieldK_18_0 : fieldK Tryz.prog 18 0 = some (0, false, 1) := by kernel_rfl
theorem tb_tk_20 : tk Tryz.prog 20 = TK.other := by kernel_rfl
theorem tb_loadK_20 : loadK Tryz.prog 20 = some (false, 1) := by kernel_rfl
theorem tb_zeroK_20 : zeroK Tryz.prog 20 = some [Value.nilIface] := by kernel_rfl
theorem tb_bytesK_20 : bytesK Tryz.prog 20 = some 16 := by kernel_rfl
theorem tb_sliceElem_20 : sliceElem Tryz.prog 20 = none := by kernel_rfl
theorem tb_arrElem_20 : arrElem Tryz.prog 20 = none := by kernel_rfl
theorem tb_byteEl_20 : byteEl Tryz.prog 20 = false := by kernel_rfl
theorem tb_tk_21 : tk Tryz.prog 21 = TK.int IntKind.i32 := by kernel_rfl
theorem tb_loadK_21 : loadK Tryz.prog 21 = some (false, 1) := by kernel_rfl
theorem tb_zeroK_21 : zeroK Tryz.prog 21 = some [Value.int IntKind.i32 0] := by kernel_rfl
theorem tb_bytesK_21 : bytesK Tryz.prog 21 = some 4 := by kernel_rfl
theorem tb_byteEl_21 : byteEl Tryz.prog 21 = false := by kernel_rfl
theorem tb_tk_22 : tk Tryz.prog 22 = TK.slc := by kernel_rfl
theorem tb_loadK_22 : loadK Tryz.prog 22 = some (false, 1) := by kernel_rfl
theorem tb_zeroK_22 : zeroK Tryz.prog 22 = some [Value.slice none 0 0] := by kernel_rfl
theorem tb_bytesK_22 : bytesK Tryz.prog 22 = some 24 := by kernel_rfl
theorem tb_sliceElem_22 : sliceElem Tryz.prog 22 = some (55, 2) := by kernel_rfl
theorem tb_arrElem_22 : arrElem Tryz.prog 22 = none := by kernel_rfl
theorem tb_byteEl_22 : byteEl Tryz.prog 22 = false := by kernel_rfl
theorem tb_tk_23 : tk Tryz.prog 23 = TK.other := by kernel_rfl
theorem tb_loadK_23 : loadK Tryz.prog 23 = some (true, 1) := by kernel_rfl
theorem tb_zeroK_23 : zeroK Tryz.prog 23 = some [Value.slice none 0 0] := by kernel_rfl
theorem tb_bytesK_23 : bytesK Tryz.prog 23 = some 24 := by kernel_rfl
theorem tb_sliceElem_23 : sliceElem Tryz.prog 23 = none := by kernel_rfl
theorem tb_arrElem_23 : arrElem Tryz.prog 23 = none := by kernel_rfl
theorem tb_placesK_23 : placesK Tryz.prog 23 = some [(0, 1)] := by kernel_rfl
theorem tb_byteEl_23 : byteEl Tryz.prog 23 = false := by kernel_rfl
theorem tb_fieldK_23_0 : fieldK Tryz.prog 23 0 = some (0, false, 1) := by kernel_rfl
theorem tb_tk_24 : tk Tryz.prog 24 = TK.other := by kernel_rfl
theorem tb_loadK_24 : loadK Tryz.prog 24 = some (true, 1) := by kernel_rfl
theorem tb_zeroK_24 : zeroK Tryz.prog 24 = some [Value.slice none 0 0] := by kernel_rfl
theorem tb_bytesK_24 : bytesK Tryz.prog 24 = some 24 := by kernel_rfl
theorem tb_sliceElem_24 : sliceElem Tryz.prog 24 = none := by kernel_rfl
theorem tb_arrElem_24 : arrElem Tryz.prog 24 = none := by kernel_rfl
theorem tb_placesK_24 : placesK Tryz.prog 24 = some [(0, 1)] := by kernel_rfl
theorem tb_byteEl_24 : byteEl Tryz.prog 24 = false := by kernel_rfl
theorem tb_fieldK_24_0 : fieldK Tryz.prog 24 0 = some (0, false, 1) := by kernel_rfl
theorem tb_tk_25 : tk Tryz.prog 25 = TK.slc := by kernel_rfl
theorem tb_loadK_25 : loadK Tryz.prog 25 = some (false, 1) := by kernel_rfl
theorem tb_zeroK_25 : zeroK Tryz.prog 25 = some [Value.slice none 0 0] := by kernel_rfl
theorem tb_bytesK_25 : bytesK Tryz.prog 25 = some 24 := by kernel_rfl
theorem tb_sliceElem_25 : sliceElem Tryz.prog 25 = some (59, 5) := by kernel_rfl
theorem tb_arrElem_25 : arrElem Tryz.prog 25 = none := by kernel_rfl
theorem tb_byteEl_25 : byteEl Tryz.prog 25 = false := by kernel_rfl
theorem tb_tk_26 : tk Tryz.prog 26 = TK.other := by kernel_rfl
theorem tb_loadK_26 : loadK Tryz.prog 26 = some (true, 2) := by kernel_rfl
theorem tb_zeroK_26 : zeroK Tryz.prog 26 = some [Value.int IntKind.i64 0, Value.slice none 0 0] := by kernel_rfl
theorem tb_bytesK_26 : bytesK Tryz.prog 26 = some 32 := by kernel_rfl
theorem tb_sliceElem_26 : sliceElem Tryz.prog 26 = none := by kernel_rfl
theorem tb_arrElem_26 : arrElem Tryz.prog 26 = none := by kernel_rfl
theorem tb_placesK_26 : placesK Tryz.prog 26 = some [(0, 1), (1, 1)] := by kernel_rfl
theorem tb_byteEl_26 : byteEl Tryz.prog 26 = false := by kernel_rfl
theorem tb_fieldK_26_0 : fieldK Tryz.prog 26 0 = some (0, false, 1) := by kernel_rfl
theorem tb_fieldK_26_1 : fieldK Tryz.prog 26 1 = some (1, false, 1) := by kernel_rfl
theorem tb_tk_27 : tk Tryz.prog 27 = TK.other := by kernel_rfl
theorem tb_loadK_27 : loadK Tryz.prog 27 = some (true, 2) := by kernel_rfl
theorem tb_zeroK_27 : zeroK Tryz.prog 27 = some [Value.int IntKind.i64 0, Value.slice none 0 0] := by kernel_rfl
theorem tb_bytesK_27 : bytesK Tryz.prog 27 = some 32 := by kernel_rfl
theorem tb_sliceElem_27 : sliceElem Tryz.prog 27 = none := by kernel_rfl
theorem tb_arrElem_27 : arrElem Tryz.prog 27 = none := by kernel_rfl
theorem tb_placesK_27 : placesK Tryz.prog 27 = some [(0, 1), (1, 1)] := by kernel_rfl
theorem tb_byteEl_27 : byteEl Tryz.prog 27 = false := by kernel_rfl
theorem tb_fieldK_27_0 : fieldK Tryz.prog 27 0 = some (0, false, 1) := by kernel_rfl
theorem tb_fieldK_27_1 : fieldK Tryz.prog 27 1 = some (1, false, 1) := by kernel_rfl
theorem tb_tk_28 : tk Tryz.prog 28 = TK.slc := by kernel_rfl
theorem tb_loadK_28 : loadK Tryz.prog 28 = some (false, 1) := by kernel_rfl
theorem tb_zeroK_28 : zeroK Tryz.prog 28 = some [Value.slice none 0 0] := by kernel_rfl
theorem tb_bytesK_28 : bytesK Tryz.prog 28 = some 24 := by kernel_rfl
theorem tb_sliceElem_28 : sliceElem Tryz.prog 28 = some (9, 1) := by kernel_rfl
theorem tb_arrElem_28 : arrElem Tryz.prog 28 = none := by kernel_rfl
theorem tb_byteEl_28 : byteEl Tryz.prog 28 = false := by kernel_rfl
theorem tb_tk_29 : tk Tryz.prog 29 = TK.other := by kernel_rfl
theorem tb_loadK_29 : loadK Tryz.prog 29 = some (false, 1) := by kernel_rfl
theorem tb_zeroK_29 : zeroK Tryz.prog 29 = some [Value.nilFunc] := by kernel_rfl
theorem tb_bytesK_29 : bytesK Tryz.prog 29 = some 8 := by kernel_rfl
theorem tb_sliceElem_29 : sliceElem Tryz.prog 29 = none := by kernel_rfl
theorem tb_arrElem_29 : arrElem Tryz.prog 29 = none := by kernel_rfl
theorem tb_byteEl_29 : byteEl Tryz.prog 29 = false := by kernel_rfl
theorem tb_tk_31 : tk Tryz.prog 31 = TK.other := by kernel_rfl
theorem tb_loadK_31 : loadK Tryz.prog 31 = some (false, 1) := by kernel_rfl
theorem tb_zeroK_31 : zeroK Tryz.prog 31 = some [Value.nilFunc] := by kernel_rfl
theorem tb_bytesK_31 : bytesK Tryz.prog 31 = some 8 := by kernel_rfl
theorem tb_sliceElem_31 : sliceElem Tryz.prog 31 = none := by kernel_rfl
theorem tb_arrElem_31 : arrElem Tryz.prog 31 = none := by kernel_rfl
theorem tb_byteEl_31 : byteEl Tryz.prog 31 = false := by kernel_rfl
theorem tb_tk_32 : tk Tryz.prog 32 = TK.other := by kernel_rfl
theorem tb_loadK_32 : loadK Tryz.prog 32 = some (false, 1) := by kernel_rfl
theorem tb_zeroK_32 : zeroK Tryz.prog 32 = some [Value.nilFunc] := by kernel_rfl
theorem tb_bytesK_32 : bytesK Tryz.prog 32 = some 8 := by kernel_rfl
theorem tb_sliceElem_32 : sliceElem Tryz.prog 32 = none := by kernel_rfl
theorem tb_arrElem_32 : arrElem Tryz.prog 32 = none := by kernel_rfl
theorem tb_byteEl_32 : byteEl Tryz.prog 32 = false := by kernel_rfl
theorem tb_tk_34 : tk Tryz.prog 34 = TK.int IntKind.i64 := by kernel_rfl
theorem tb_loadK_34 : loadK Tryz.prog 34 = some (false, 1) := by kernel_rfl
theorem tb_zeroK_34 : zeroK Tryz.prog 34 = some [Value.int IntKind.i64 0] := by kernel_rfl
theorem tb_bytesK_34 : bytesK Tryz.prog 34 = some 8 := by kernel_rfl
theorem tb_byteEl_34 : byteEl Tryz.prog 34 = false := by kernel_rfl
theorem tb_tk_35 : tk Tryz.prog 35 = TK.other := by kernel_rfl
theorem tb_loadK_35 : loadK Tryz.prog 35 = some (false, 1) := by kernel_rfl
theorem tb_zeroK_35 : zeroK Tryz.prog 35 = some [Value.tuple { toList := [Value.slice none 0 0, Value.int IntKind.i64 0] }] := by kernel_rfl
theorem tb_bytesK_35 : bytesK Tryz.prog 35 = some 0 := by kernel_rfl
theorem tb_sliceElem_35 : sliceElem Tryz.prog 35 = none := by kernel_rfl
theorem tb_arrElem_35 : arrElem Tryz.prog 35 = none := by kernel_rfl
theorem tb_byteEl_35 : byteEl Tryz.prog 35 = false := by kernel_rfl
theorem tb_tk_37 : tk Tryz.prog 37 = TK.other := by kernel_rfl
theorem tb_loadK_37 : loadK Tryz.prog 37 = some (false, 1) := by kernel_rfl
theorem tb_zeroK_37 : zeroK Tryz.prog 37 = some [Value.tuple { toList := [Value.slice none 0 0, Value.int IntKind.i64 0] }] := by kernel_rfl
theorem tb_bytesK_37 : bytesK Tryz.prog 37 = some 0 := by kernel_rfl
theorem tb_sliceElem_37 : sliceElem Tryz.prog 37 = none := by kernel_rfl
theorem tb_arrElem_37 : arrElem Tryz.prog 37 = none := by kernel_rfl
theorem tb_byteEl_37 : byteEl Tryz.prog 37 = false := by kernel_rfl
theorem tb_tk_39 : tk Tryz.prog 39 = TK.other := by kernel_rfl
theorem tb_loadK_39 : loadK Tryz.prog 39 = some (false, 1) := by kernel_rfl
theorem tb_zeroK_39 : zeroK Tryz.prog 39 = some [Value.tuple { toList := [Value.agg { toList := [Value.slice none 0 0] }, Value.int IntKind.i64 0] }] := by kernel_rfl
theorem tb_bytesK_39 : bytesK Tryz.prog 39 = some 0 := by kernel_rfl
theorem tb_sliceElem_39 : sliceElem Tryz.prog 39 = none := by kernel_rfl
theorem tb_arrElem_39 : arrElem Tryz.prog 39 = none := by kernel_rfl
theorem tb_byteEl_39 : byteEl Tryz.prog 39 = false := by kernel_rfl
theorem tb_tk_41 : tk Tryz.prog 41 = TK.other := by kernel_rfl
theorem tb_loadK_41 : loadK Tryz.prog 41 = some (false, 1) := by kernel_rfl
theorem tb_zeroK_41 : zeroK Tryz.prog 41 = some [Value.tuple { toList := [Value.agg { toList := [Value.slice none 0 0] }, Value.int IntKind.i64 0] }] := by kernel_rfl
theorem tb_bytesK_41 : bytesK Tryz.prog 41 = some 0 := by kernel_rfl
theorem tb_sliceElem_41 : sliceElem Tryz.prog 41 = none := by kernel_rfl
theorem tb_arrElem_41 : arrElem Tryz.prog 41 = none := by kernel_rfl
theorem tb_byteEl_41 : byteEl Tryz.prog 41 = false := by kernel_rfl
theorem tb_tk_47 : tk Tryz.prog 47 = TK.other := by kernel_rfl
theorem tb_loadK_47 : loadK Tryz.prog 47 = some (false, 1) := by kernel_rfl
theorem tb_zeroK_47 : zeroK Tryz.prog 47 = some [Value.tuple { toList := [Value.agg { toList := [Value.int IntKind.i64 0, Value.slice none 0 0] }, Value.int IntKind.i64 0] }] := by kernel_rfl
theorem tb_bytesK_47 : bytesK Tryz.prog 47 = some 0 := by kernel_rfl
theorem tb_sliceElem_47 : sliceElem Tryz.prog 47 = none := by kernel_rfl
theorem tb_arrElem_47 : arrElem Tryz.prog 47 = none := by kernel_rfl
theorem tb_byteEl_47 : byteEl Tryz.prog 47 = false := by kernel_rfl
theorem tb_tk_49 : tk Tryz.prog 49 = TK.other := by kernel_rfl
theorem tb_loadK_49 : loadK Tryz.prog 49 = some (false, 1) := by kernel_rfl
theorem tb_zeroK_49 : zeroK Tryz.prog 49 = some [Value.tuple { toList := [Value.agg { toList := [Value.int IntKind.i64 0, Value.slice none 0 0] }, Value.int IntKind.i64 0] }] := by kernel_rfl
theorem tb_bytesK_49 : bytesK Tryz.prog 49 = some 0 := by kernel_rfl
theorem tb_sliceElem_49 : sliceElem Tryz.prog 49 = none := by kernel_rfl
theorem tb_arrElem_49 : arrElem Tryz.prog 49 = none := by kernel_rfl
theorem tb_byteEl_49 : byteEl Tryz.prog 49 = false := by kernel_rfl
theorem tb_tk_53 : tk Tryz.prog 53 = TK.slc := by kernel_rfl
theorem tb_loadK_53 : loadK Tryz.prog 53 = some (false, 1) := by kernel_rfl
theorem tb_zeroK_53 : zeroK Tryz.prog 53 = some [Value.slice none 0 0] := by kernel_rfl
theorem tb_bytesK_53 : bytesK Tryz.prog 53 = some 24 := by kernel_rfl
theorem tb_sliceElem_53 : sliceElem Tryz.prog 53 = some (28, 1) := by kernel_rfl
theorem tb_arrElem_53 : arrElem Tryz.prog 53 = none := by kernel_rfl
theorem tb_byteEl_53 : byteEl Tryz.prog 53 = false := by kernel_rfl
theorem tb_tk_55 : tk Tryz.prog 55 = TK.other := by kernel_rfl
theorem tb_loadK_55 : loadK Tryz.prog 55 = some (true, 2) := by kernel_rfl
theorem tb_zeroK_55 : zeroK Tryz.prog 55 = some [Value.int IntKind.i64 0, Value.slice none 0 0] := by kernel_rfl
theorem tb_bytesK_55 : bytesK Tryz.prog 55 = some 32 := by kernel_rfl
theorem tb_sliceElem_55 : sliceElem Tryz.prog 55 = none := by kernel_rfl
theorem tb_arrElem_55 : arrElem Tryz.prog 55 = none := by kernel_rfl
theorem tb_placesK_55 : placesK Tryz.prog 55 = some [(0, 1), (1, 1)] := by kernel_rfl
theorem tb_byteEl_55 : byteEl Tryz.prog 55 = false := by kernel_rfl
theorem tb_fieldK_55_0 : fieldK Tryz.prog 55 0 = some (0, false, 1) := by kernel_rfl
theorem tb_fieldK_55_1 : fieldK Tryz.prog 55 1 = some (1, false, 1) := by kernel_rfl
theorem tb_tk_57 : tk Tryz.prog 57 = TK.other := by kernel_rfl
theorem tb_loadK_57 : loadK Tryz.prog 57 = some (true, 3) := by kernel_rfl
theorem tb_zeroK_57 : zeroK Tryz.prog 57 = some [Value.int IntKind.i64 0, Value.int IntKind.i64 0, Value.int IntKind.i64 0] := by kernel_rfl
theorem tb_bytesK_57 : bytesK Tryz.prog 57 = some 24 := by kernel_rfl
theorem tb_sliceElem_57 : sliceElem Tryz.prog 57 = none := by kernel_rfl
theorem tb_arrElem_57 : arrElem Tryz.prog 57 = none := by kernel_rfl
theorem tb_placesK_57 : placesK Tryz.prog 57 = some [(0, 1), (1, 1), (2, 1)] := by kernel_rfl
theorem tb_byteEl_57 : byteEl Tryz.prog 57 = false := by kernel_rfl
theorem tb_flatK_57 : flatK Tryz.prog 57 = some [TypeDesc.int IntKind.i64, TypeDesc.int IntKind.i64, TypeDesc.int IntKind.i64] := by kernel_rfl
theorem tb_fieldK_57_0 : fieldK Tryz.prog 57 0 = some (0, false, 1) := by kernel_rfl
theorem tb_fieldK_57_1 : fieldK Tryz.prog 57 1 = some (1, false, 1) := by kernel_rfl
theorem tb_fieldK_57_2 : fieldK Tryz.prog 57 2 = some (2, false, 1) := by kernel_rfl
theorem tb_tk_59 : tk Tryz.prog 59 = TK.other := by kernel_rfl
theorem tb_loadK_59 : loadK Tryz.prog 59 = some (true, 5) := by kernel_rfl
theorem tb_zeroK_59 : zeroK Tryz.prog 59 = some [Value.int IntKind.i64 0, Value.int IntKind.i64 0, Value.int IntKind.i64 0, Value.int IntKind.u8 0, Value.string ByteArray.empty] := by kernel_rfl
theorem tb_bytesK_59 : bytesK Tryz.prog 59 = some 48 := by kernel_rfl
theorem tb_sliceElem_59 : sliceElem Tryz.prog 59 = none := by kernel_rfl
theorem tb_arrElem_59 : arrElem Tryz.prog 59 = none := by kernel_rfl
theorem tb_placesK_59 : placesK Tryz.prog 59 = some [(0, 3), (3, 1), (4, 1)] := by kernel_rfl
theorem tb_byteEl_59 : byteEl Tryz.prog 59 = false := by kernel_rfl
theorem tb_flatK_59 : flatK Tryz.prog 59 = some [TypeDesc.int IntKind.i64, TypeDesc.int IntKind.i64, TypeDesc.int IntKind.i64, TypeDesc.int IntKind.u8, TypeDesc.string] := by kernel_rfl
theorem tb_fieldK_59_0 : fieldK Tryz.prog 59 0 = some (0, true, 3) := by kernel_rfl
theorem tb_fieldK_59_1 : fieldK Tryz.prog 59 1 = some (3, false, 1) := by kernel_rfl
theorem tb_fieldK_59_2 : fieldK Tryz.prog 59 2 = some (4, false, 1) := by kernel_rfl
theorem tb_tk_64 : tk Tryz.prog 64 = TK.other := by kernel_rfl
theorem tb_loadK_64 : loadK Tryz.prog 64 = some (false, 1) := by kernel_rfl
theorem tb_zeroK_64 : zeroK Tryz.prog 64 = some [Value.nilFunc] := by kernel_rfl
theorem tb_bytesK_64 : bytesK Tryz.prog 64 = some 8 := by kernel_rfl
theorem tb_sliceElem_64 : sliceElem Tryz.prog 64 = none := by kernel_rfl
theorem tb_arrElem_64 : arrElem Tryz.prog 64 = none := by kernel_rfl
theorem tb_byteEl_64 : byteEl Tryz.prog 64 = false := by kernel_rfl
theorem tb_tk_65 : tk Tryz.prog 65 = TK.other := by kernel_rfl
theorem tb_loadK_65 : loadK Tryz.prog 65 = some (false, 1) := by kernel_rfl
theorem tb_zeroK_65 : zeroK Tryz.prog 65 = some [Value.nilFunc] := by kernel_rfl
theorem tb_bytesK_65 : bytesK Tryz.prog 65 = some 8 := by kernel_rfl
theorem tb_sliceElem_65 : sliceElem Tryz.prog 65 = none := by kernel_rfl
theorem tb_arrElem_65 : arrElem Tryz.prog 65 = none := by kernel_rfl
theorem tb_byteEl_65 : byteEl Tryz.prog 65 = false := by kernel_rfl
theorem tb_tk_67 : tk Tryz.prog 67 = TK.ptr := by kernel_rfl
theorem tb_loadK_67 : loadK Tryz.prog 67 = some (false, 1) := by kernel_rfl
theorem tb_zeroK_67 : zeroK Tryz.prog 67 = some [Value.pointer none] := by kernel_rfl
theorem tb_bytesK_67 : bytesK Tryz.prog 67 = some 8 := by kernel_rfl
theorem tb_sliceElem_67 : sliceElem Tryz.prog 67 = none := by kernel_rfl
theorem tb_arrElem_67 : arrElem Tryz.prog 67 = none := by kernel_rfl
theorem tb_byteEl_67 : byteEl Tryz.prog 67 = false := by kernel_rfl
theorem tb_tk_69 : tk Tryz.prog 69 = TK.ptr := by kernel_rfl
theorem tb_loadK_69 : loadK Tryz.prog 69 = some (false, 1) := by kernel_rfl
theorem tb_zeroK_69 : zeroK Tryz.prog 69 = some [Value.pointer none] := by kernel_rfl
theorem tb_bytesK_69 : bytesK Tryz.prog 69 = some 8 := by kernel_rfl
theorem tb_sliceElem_69 : sliceElem Tryz.prog 69 = none := by kernel_rfl
theorem tb_arrElem_69 : arrElem Tryz.prog 69 = none := by kernel_rfl
theorem tb_byteEl_69 : byteEl Tryz.prog 69 = false := by kernel_rfl
theorem tb_tk_72 : tk Tryz.prog 72 = TK.ptr := by kernel_rfl
theorem tb_loadK_72 : loadK Tryz.prog 72 = some (false, 1) := by kernel_rfl
theorem tb_zeroK_72 : zeroK Tryz.prog 72 = some [Value.pointer none] := by kernel_rfl
theorem tb_bytesK_72 : bytesK Tryz.prog 72 = some 8 := by kernel_rfl
theorem tb_sliceElem_72 : sliceElem Tryz.prog 72 = none := by kernel_rfl
theorem tb_arrElem_72 : arrElem Tryz.prog 72 = none := by kernel_rfl
theorem tb_byteEl_72 : byteEl Tryz.prog 72 = false := by kernel_rfl
theorem tb_tk_75 : tk Tryz.prog 75 = TK.other := by kernel_rfl
theorem tb_loadK_75 : loadK Tryz.prog 75 = some (true, 1) := by kernel_rfl
theorem tb_zeroK_75 : zeroK Tryz.prog 75 = some [Value.int IntKind.i64 0] := by kernel_rfl
theorem tb_bytesK_75 : bytesK Tryz.prog 75 = some 8 := by kernel_rfl
theorem tb_sliceElem_75 : sliceElem Tryz.prog 75 = none := by kernel_rfl
theorem tb_arrElem_75 : arrElem Tryz.prog 75 = none := by kernel_rfl
theorem tb_placesK_75 : placesK Tryz.prog 75 = some [(0, 1)] := by kernel_rfl
theorem tb_byteEl_75 : byteEl Tryz.prog 75 = false := by kernel_rfl
theorem tb_flatK_75 : flatK Tryz.prog 75 = some [TypeDesc.int IntKind.i64] := by kernel_rfl
theorem tb_fieldK_75_0 : fieldK Tryz.prog 75 0 = some (0, false, 1) := by kernel_rfl
theorem tb_tk_76 : tk Tryz.prog 76 = TK.other := by kernel_rfl
theorem tb_loadK_76 : loadK Tryz.prog 76 = some (false, 1) := by kernel_rfl
theorem tb_zeroK_76 : zeroK Tryz.prog 76 = some [Value.nilFunc] := by kernel_rfl
theorem tb_bytesK_76 : bytesK Tryz.prog 76 = some 8 := by kernel_rfl
theorem tb_sliceElem_76 : sliceElem Tryz.prog 76 = none := by kernel_rfl
theorem tb_arrElem_76 : arrElem Tryz.prog 76 = none := by kernel_rfl
theorem tb_byteEl_76 : byteEl Tryz.prog 76 = false := by kernel_rfl
theorem tb_tk_79 : tk Tryz.prog 79 = TK.other := by kernel_rfl
theorem tb_loadK_79 : loadK Tryz.prog 79 = some (true, 2) := by kernel_rfl
theorem tb_zeroK_79 : zeroK Tryz.prog 79 = some [Value.slice none 0 0, Value.bool false] := by kernel_rfl
theorem tb_bytesK_79 : bytesK Tryz.prog 79 = some 32 := by kernel_rfl
theorem tb_sliceElem_79 : sliceElem Tryz.prog 79 = none := by kernel_rfl
theorem tb_arrElem_79 : arrElem Tryz.prog 79 = none := by kernel_rfl
theorem tb_placesK_79 : placesK Tryz.prog 79 = some [(0, 1), (1, 1)] := by kernel_rfl
theorem tb_byteEl_79 : byteEl Tryz.prog 79 = false := by kernel_rfl
theorem tb_fieldK_79_0 : fieldK Tryz.prog 79 0 = some (0, false, 1) := by kernel_rfl
theorem tb_fieldK_79_1 : fieldK Tryz.prog 79 1 = some (1, false, 1) := by kernel_rfl
theorem tb_tk_83 : tk Tryz.prog 83 = TK.other := by kernel_rfl
theorem tb_loadK_83 : loadK Tryz.prog 83 = some (true, 4) := by kernel_rfl
theorem tb_zeroK_83 : zeroK Tryz.prog 83 = some [Value.string ByteArray.empty, Value.string ByteArray.empty, Value.string ByteArray.empty, Value.string ByteArray.empty] := by kernel_rfl
theorem tb_bytesK_83 : bytesK Tryz.prog 83 = some 64 := by kernel_rfl
theorem tb_sliceElem_83 : sliceElem Tryz.prog 83 = none := by kernel_rfl
theorem tb_arrElem_83 : arrElem Tryz.prog 83 = some (4, 1) := by kernel_rfl
theorem tb_placesK_83 : placesK Tryz.prog 83 = some [(0, 1), (1, 1), (2, 1), (3, 1), (4, 1), (5, 1), (6, 1), (7, 1)] := by kernel_rfl
theorem tb_byteEl_83 : byteEl Tryz.prog 83 = false := by kernel_rfl
theorem tb_flatK_83 : flatK Tryz.prog 83 = some [TypeDesc.string, TypeDesc.string, TypeDesc.string, TypeDesc.string] := by kernel_rfl
theorem tb_arrLoad_83 : arrLoad Tryz.prog 83 = some (4, false, 1) := by kernel_rfl
theorem tb_tk_89 : tk Tryz.prog 89 = TK.mp := by kernel_rfl
theorem tb_loadK_89 : loadK Tryz.prog 89 = some (false, 1) := by kernel_rfl
theorem tb_zeroK_89 : zeroK Tryz.prog 89 = some [Value.map none] := by kernel_rfl
theorem tb_bytesK_89 : bytesK Tryz.prog 89 = some 8 := by kernel_rfl
theorem tb_byteEl_89 : byteEl Tryz.prog 89 = false := by kernel_rfl
theorem tb_mapK_89 : mapK Tryz.prog 89 = some (KD.int IntKind.i64, V.v (Value.bool false)) := by kernel_rfl
theorem tb_tk_91 : tk Tryz.prog 91 = TK.other := by kernel_rfl
theorem tb_loadK_91 : loadK Tryz.prog 91 = some (false, 1) := by kernel_rfl
theorem tb_zeroK_91 : zeroK Tryz.prog 91 = some [Value.nilFunc] := by kernel_rfl
theorem tb_bytesK_91 : bytesK Tryz.prog 91 = some 8 := by kernel_rfl
theorem tb_sliceElem_91 : sliceElem Tryz.prog 91 = none := by kernel_rfl
theorem tb_arrElem_91 : arrElem Tryz.prog 91 = none := by kernel_rfl
theorem tb_byteEl_91 : byteEl Tryz.prog 91 = false := by kernel_rfl
theorem tb_tk_93 : tk Tryz.prog 93 = TK.ptr := by kernel_rfl
theorem tb_loadK_93 : loadK Tryz.prog 93 = some (false, 1) := by kernel_rfl
theorem tb_zeroK_93 : zeroK Tryz.prog 93 = some [Value.pointer none] := by kernel_rfl
theorem tb_bytesK_93 : bytesK Tryz.prog 93 = some 8 := by kernel_rfl
theorem tb_sliceElem_93 : sliceElem Tryz.prog 93 = none := by kernel_rfl
theorem tb_arrElem_93 : arrElem Tryz.prog 93 = none := by kernel_rfl
theorem tb_byteEl_93 : byteEl Tryz.prog 93 = false := by kernel_rfl
theorem tb_tk_94 : tk Tryz.prog 94 = TK.slc := by kernel_rfl
theorem tb_loadK_94 : loadK Tryz.prog 94 = some (false, 1) := by kernel_rfl
theorem tb_zeroK_94 : zeroK Tryz.prog 94 = some [Value.slice none 0 0] := by kernel_rfl
theorem tb_bytesK_94 : bytesK Tryz.prog 94 = some 24 := by kernel_rfl
theorem tb_sliceElem_94 : sliceElem Tryz.prog 94 = some (5, 1) := by kernel_rfl
theorem tb_arrElem_94 : arrElem Tryz.prog 94 = none := by kernel_rfl
theorem tb_byteEl_94 : byteEl Tryz.prog 94 = true := by kernel_rfl
theorem tb_tk_96 : tk Tryz.prog 96 = TK.other := by kernel_rfl
theorem tb_loadK_96 : loadK Tryz.prog 96 = some (true, 2) := by kernel_rfl
theorem tb_zeroK_96 : zeroK Tryz.prog 96 = some [Value.pointer none, Value.slice none 0 0] := by kernel_rfl
theorem tb_bytesK_96 : bytesK Tryz.prog 96 = some 32 := by kernel_rfl
theorem tb_sliceElem_96 : sliceElem Tryz.prog 96 = none := by kernel_rfl
theorem tb_arrElem_96 : arrElem Tryz.prog 96 = none := by kernel_rfl
theorem tb_placesK_96 : placesK Tryz.prog 96 = some [(0, 1), (1, 1)] := by kernel_rfl
theorem tb_byteEl_96 : byteEl Tryz.prog 96 = false := by kernel_rfl
theorem tb_fieldK_96_0 : fieldK Tryz.prog 96 0 = some (0, false, 1) := by kernel_rfl
theorem tb_fieldK_96_1 : fieldK Tryz.prog 96 1 = some (1, false, 1) := by kernel_rfl
theorem tb_tk_99 : tk Tryz.prog 99 = TK.other := by kernel_rfl
theorem tb_loadK_99 : loadK Tryz.prog 99 = some (false, 1) := by kernel_rfl
theorem tb_zeroK_99 : zeroK Tryz.prog 99 = some [Value.nilIface] := by kernel_rfl
theorem tb_bytesK_99 : bytesK Tryz.prog 99 = some 16 := by kernel_rfl
theorem tb_sliceElem_99 : sliceElem Tryz.prog 99 = none := by kernel_rfl
theorem tb_arrElem_99 : arrElem Tryz.prog 99 = none := by kernel_rfl
theorem tb_byteEl_99 : byteEl Tryz.prog 99 = false := by kernel_rfl
theorem tb_tk_100 : tk Tryz.prog 100 = TK.other := by kernel_rfl
theorem tb_loadK_100 : loadK Tryz.prog 100 = some (false, 1) := by kernel_rfl
theorem tb_zeroK_100 : zeroK Tryz.prog 100 = some [Value.tuple { toList := [Value.int IntKind.i64 0, Value.nilIface] }] := by kernel_rfl
theorem tb_bytesK_100 : bytesK Tryz.prog 100 = some 0 := by kernel_rfl
theorem tb_sliceElem_100 : sliceElem Tryz.prog 100 = none := by kernel_rfl
theorem tb_arrElem_100 : arrElem Tryz.prog 100 = none := by kernel_rfl
theorem tb_byteEl_100 : byteEl Tryz.prog 100 = false := by kernel_rfl
theorem tb_tk_103 : tk Tryz.prog 103 = TK.other := by kernel_rfl
theorem tb_loadK_103 : loadK Tryz.prog 103 = some (false, 1) := by kernel_rfl
theorem tb_zeroK_103 : zeroK Tryz.prog 103 = some [Value.nilFunc] := by kernel_rfl
theorem tb_bytesK_103 : bytesK Tryz.prog 103 = some 8 := by kernel_rfl
theorem tb_sliceElem_103 : sliceElem Tryz.prog 103 = none := by kernel_rfl
theorem tb_arrElem_103 : arrElem Tryz.prog 103 = none := by kernel_rfl
theorem tb_byteEl_103 : byteEl Tryz.prog 103 = false := by kernel_rfl
theorem tb_tk_105 : tk Tryz.prog 105 = TK.other := by kernel_rfl
theorem tb_loadK_105 : loadK Tryz.prog 105 = some (true, 1) := by kernel_rfl
theorem tb_zeroK_105 : zeroK Tryz.prog 105 = some [Value.slice none 0 0] := by kernel_rfl
theorem tb_bytesK_105 : bytesK Tryz.prog 105 = some 24 := by kernel_rfl
theorem tb_sliceElem_105 : sliceElem Tryz.prog 105 = none := by kernel_rfl
theorem tb_arrElem_105 : arrElem Tryz.prog 105 = none := by kernel_rfl
theorem tb_placesK_105 : placesK Tryz.prog 105 = some [(0, 1)] := by kernel_rfl
theorem tb_byteEl_105 : byteEl Tryz.prog 105 = false := by kernel_rfl
theorem tb_fieldK_105_0 : fieldK Tryz.prog 105 0 = some (0, false, 1) := by kernel_rfl
theorem tb_tk_107 : tk Tryz.prog 107 = TK.ptr := by kernel_rfl
theorem tb_loadK_107 : loadK Tryz.prog 107 = some (false, 1) := by kernel_rfl
theorem tb_zeroK_107 : zeroK Tryz.prog 107 = some [Value.pointer none] := by kernel_rfl
theorem tb_bytesK_107 : bytesK Tryz.prog 107 = some 8 := by kernel_rfl
theorem tb_sliceElem_107 : sliceElem Tryz.prog 107 = none := by kernel_rfl
theorem tb_arrElem_107 : arrElem Tryz.prog 107 = none := by kernel_rfl
theorem tb_byteEl_107 : byteEl Tryz.prog 107 = false := by kernel_rfl
theorem tb_tk_108 : tk Tryz.prog 108 = TK.other := by kernel_rfl
theorem tb_loadK_108 : loadK Tryz.prog 108 = some (false, 1) := by kernel_rfl
theorem tb_zeroK_108 : zeroK Tryz.prog 108 = some [Value.tuple { toList := [Value.int IntKind.i64 0, Value.bool false] }] := by kernel_rfl
theorem tb_bytesK_108 : bytesK Tryz.prog 108 = some 0 := by kernel_rfl
theorem tb_sliceElem_108 : sliceElem Tryz.prog 108 = none := by kernel_rfl
theorem tb_arrElem_108 : arrElem Tryz.prog 108 = none := by kernel_rfl
theorem tb_byteEl_108 : byteEl Tryz.prog 108 = false := by kernel_rfl
theorem tb_tk_110 : tk Tryz.prog 110 = TK.ptr := by kernel_rfl
theorem tb_loadK_110 : loadK Tryz.prog 110 = some (false, 1) := by kernel_rfl
theorem tb_zeroK_110 : zeroK Tryz.prog 110 = some [Value.pointer none] := by kernel_rfl
theorem tb_bytesK_110 : bytesK Tryz.prog 110 = some 8 := by kernel_rfl
theorem tb_sliceElem_110 : sliceElem Tryz.prog 110 = none := by kernel_rfl
theorem tb_arrElem_110 : arrElem Tryz.prog 110 = none := by kernel_rfl
theorem tb_byteEl_110 : byteEl Tryz.prog 110 = false := by kernel_rfl
theorem tb_tk_111 : tk Tryz.prog 111 = TK.other := by kernel_rfl
theorem tb_loadK_111 : loadK Tryz.prog 111 = some (false, 1) := by kernel_rfl
theorem tb_zeroK_111 : zeroK Tryz.prog 111 = some [Value.tuple { toList := [Value.pointer none, Value.int IntKind.i64 0] }] := by kernel_rfl
theorem tb_bytesK_111 : bytesK Tryz.prog 111 = some 0 := by kernel_rfl
theorem tb_sliceElem_111 : sliceElem Tryz.prog 111 = none := by kernel_rfl
theorem tb_arrElem_111 : arrElem Tryz.prog 111 = none := by kernel_rfl
theorem tb_byteEl_111 : byteEl Tryz.prog 111 = false := by kernel_rfl
theorem tb_tk_114 : tk Tryz.prog 114 = TK.ptr := by kernel_rfl
theorem tb_loadK_114 : loadK Tryz.prog 114 = some (false, 1) := by kernel_rfl
theorem tb_zeroK_114 : zeroK Tryz.prog 114 = some [Value.pointer none] := by kernel_rfl
theorem tb_bytesK_114 : bytesK Tryz.prog 114 = some 8 := by kernel_rfl
theorem tb_sliceElem_114 : sliceElem Tryz.prog 114 = none := by kernel_rfl
theorem tb_arrElem_114 : arrElem Tryz.prog 114 = none := by kernel_rfl
theorem tb_byteEl_114 : byteEl Tryz.prog 114 = false := by kernel_rfl
theorem tb_tk_115 : tk Tryz.prog 115 = TK.slc := by kernel_rfl
theorem tb_loadK_115 : loadK Tryz.prog 115 = some (false, 1) := by kernel_rfl
theorem tb_zeroK_115 : zeroK Tryz.prog 115 = some [Value.slice none 0 0] := by kernel_rfl
theorem tb_bytesK_115 : bytesK Tryz.prog 115 = some 24 := by kernel_rfl
theorem tb_sliceElem_115 : sliceElem Tryz.prog 115 = some (114, 1) := by kernel_rfl
theorem tb_arrElem_115 : arrElem Tryz.prog 115 = none := by kernel_rfl
theorem tb_byteEl_115 : byteEl Tryz.prog 115 = false := by kernel_rfl
theorem tb_tk_117 : tk Tryz.prog 117 = TK.other := by kernel_rfl
theorem tb_loadK_117 : loadK Tryz.prog 117 = some (false, 1) := by kernel_rfl
theorem tb_zeroK_117 : zeroK Tryz.prog 117 = some [Value.nilFunc] := by kernel_rfl
theorem tb_bytesK_117 : bytesK Tryz.prog 117 = some 8 := by kernel_rfl
theorem tb_sliceElem_117 : sliceElem Tryz.prog 117 = none := by kernel_rfl
theorem tb_arrElem_117 : arrElem Tryz.prog 117 = none := by kernel_rfl
theorem tb_byteEl_117 : byteEl Tryz.prog 117 = false := by kernel_rfl
theorem tb_tk_118 : tk Tryz.prog 118 = TK.slc := by kernel_rfl
theorem tb_loadK_118 : loadK Tryz.prog 118 = some (false, 1) := by kernel_rfl
theorem tb_zeroK_118 : zeroK Tryz.prog 118 = some [Value.slice none 0 0] := by kernel_rfl
theorem tb_bytesK_118 : bytesK Tryz.prog 118 = some 24 := by kernel_rfl
theorem tb_sliceElem_118 : sliceElem Tryz.prog 118 = some (3, 1) := by kernel_rfl
theorem tb_arrElem_118 : arrElem Tryz.prog 118 = none := by kernel_rfl
theorem tb_byteEl_118 : byteEl Tryz.prog 118 = false := by kernel_rfl
theorem tb_tk_120 : tk Tryz.prog 120 = TK.other := by kernel_rfl
theorem tb_loadK_120 : loadK Tryz.prog 120 = some (false, 1) := by kernel_rfl
theorem tb_zeroK_120 : zeroK Tryz.prog 120 = some [Value.nilFunc] := by kernel_rfl
theorem tb_bytesK_120 : bytesK Tryz.prog 120 = some 8 := by kernel_rfl
theorem tb_sliceElem_120 : sliceElem Tryz.prog 120 = none := by kernel_rfl
theorem tb_arrElem_120 : arrElem Tryz.prog 120 = none := by kernel_rfl
theorem tb_byteEl_120 : byteEl Tryz.prog 120 = false := by kernel_rfl
theorem tb_tk_124 : tk Tryz.prog 124 = TK.ptr := by kernel_rfl
theorem tb_loadK_124 : loadK Tryz.prog 124 = some (false, 1) := by kernel_rfl
theorem tb_zeroK_124 : zeroK Tryz.prog 124 = some [Value.pointer none] := by kernel_rfl
theorem tb_bytesK_124 : bytesK Tryz.prog 124 = some 8 := by kernel_rfl
theorem tb_sliceElem_124 : sliceElem Tryz.prog 124 = none := by kernel_rfl
theorem tb_arrElem_124 : arrElem Tryz.prog 124 = none := by kernel_rfl
theorem tb_byteEl_124 : byteEl Tryz.prog 124 = false := by kernel_rfl
theorem tb_tk_133 : tk Tryz.prog 133 = TK.other := by kernel_rfl
theorem tb_loadK_133 : loadK Tryz.prog 133 = some (true, 24) := by kernel_rfl
theorem tb_zeroK_133 : zeroK Tryz.prog 133 = some [Value.int IntKind.u8 0, Value.int IntKind.u8 0, Value.int IntKind.u8 0, Value.int IntKind.u8 0, Value.int IntKind.u8 0, Value.int IntKind.u8 0, Value.int IntKind.u8 0, Value.int IntKind.u8 0, Value.int IntKind.u8 0, Value.int IntKind.u8 0, Value.int IntKind.u8 0, Value.int IntKind.u8 0, Value.int IntKind.u8 0, Value.int IntKind.u8 0, Value.int IntKind.u8 0, Value.int IntKind.u8 0, Value.int IntKind.u8 0, Value.int IntKind.u8 0, Value.int IntKind.u8 0, Value.int IntKind.u8 0, Value.int IntKind.u8 0, Value.int IntKind.u8 0, Value.int IntKind.u8 0, Value.int IntKind.u8 0] := by kernel_rfl
theorem tb_bytesK_133 : bytesK Tryz.prog 133 = some 24 := by kernel_rfl
theorem tb_sliceElem_133 : sliceElem Tryz.prog 133 = none := by kernel_rfl
theorem tb_arrElem_133 : arrElem Tryz.prog 133 = some (24, 1) := by kernel_rfl
theorem tb_placesK_133 : placesK Tryz.prog 133 = some [(0, 1), (1, 1), (2, 1), (3, 1), (4, 1), (5, 1), (6, 1), (7, 1)] := by kernel_rfl
theorem tb_byteEl_133 : byteEl Tryz.prog 133 = false := by kernel_rfl
theorem tb_flatK_133 : flatK Tryz.prog 133 = some [TypeDesc.int IntKind.u8, TypeDesc.int IntKind.u8, TypeDesc.int IntKind.u8, TypeDesc.int IntKind.u8, TypeDesc.int IntKind.u8, TypeDesc.int IntKind.u8, TypeDesc.int IntKind.u8, TypeDesc.int IntKind.u8, TypeDesc.int IntKind.u8, TypeDesc.int IntKind.u8, TypeDesc.int IntKind.u8, TypeDesc.int IntKind.u8, TypeDesc.int IntKind.u8, TypeDesc.int IntKind.u8, TypeDesc.int IntKind.u8, TypeDesc.int IntKind.u8, TypeDesc.int IntKind.u8, TypeDesc.int IntKind.u8, TypeDesc.int IntKind.u8, TypeDesc.int IntKind.u8, TypeDesc.int IntKind.u8, TypeDesc.int IntKind.u8, TypeDesc.int IntKind.u8, TypeDesc.int IntKind.u8] := by kernel_rfl
theorem tb_arrLoad_133 : arrLoad Tryz.prog 133 = some (24, false, 1) := by kernel_rfl
theorem tb_tk_134 : tk Tryz.prog 134 = TK.int IntKind.u64 := by kernel_rfl
theorem tb_loadK_134 : loadK Tryz.prog 134 = some (false, 1) := by kernel_rfl
theorem tb_zeroK_134 : zeroK Tryz.prog 134 = some [Value.int IntKind.u64 0] := by kernel_rfl
theorem tb_bytesK_134 : bytesK Tryz.prog 134 = some 8 := by kernel_rfl
theorem tb_byteEl_134 : byteEl Tryz.prog 134 = false := by kernel_rfl
theorem tb_tk_137 : tk Tryz.prog 137 = TK.other := by kernel_rfl
theorem tb_loadK_137 : loadK Tryz.prog 137 = some (false, 1) := by kernel_rfl
theorem tb_zeroK_137 : zeroK Tryz.prog 137 = some [Value.tuple { toList := [Value.slice none 0 0, Value.string ByteArray.empty] }] := by kernel_rfl
theorem tb_bytesK_137 : bytesK Tryz.prog 137 = some 0 := by kernel_rfl
theorem tb_sliceElem_137 : sliceElem Tryz.prog 137 = none := by kernel_rfl
theorem tb_arrElem_137 : arrElem Tryz.prog 137 = none := by kernel_rfl
theorem tb_byteEl_137 : byteEl Tryz.prog 137 = false := by kernel_rfl
theorem tb_tk_139 : tk Tryz.prog 139 = TK.other := by kernel_rfl
theorem tb_loadK_139 : loadK Tryz.prog 139 = some (false, 1) := by kernel_rfl
theorem tb_zeroK_139 : zeroK Tryz.prog 139 = some [Value.pointer none] := by kernel_rfl
theorem tb_bytesK_139 : bytesK Tryz.prog 139 = some 8 := by kernel_rfl
theorem tb_sliceElem_139 : sliceElem Tryz.prog 139 = none := by kernel_rfl
theorem tb_arrElem_139 : arrElem Tryz.prog 139 = none := by kernel_rfl
theorem tb_byteEl_139 : byteEl Tryz.prog 139 = false := by kernel_rfl
theorem tb_tk_144 : tk Tryz.prog 144 = TK.int IntKind.i64 := by kernel_rfl
theorem tb_loadK_144 : loadK Tryz.prog 144 = some (false, 1) := by kernel_rfl
theorem tb_zeroK_144 : zeroK Tryz.prog 144 = some [Value.int IntKind.i64 0] := by kernel_rfl
theorem tb_bytesK_144 : bytesK Tryz.prog 144 = some 8 := by kernel_rfl
theorem tb_byteEl_144 : byteEl Tryz.prog 144 = false := by kernel_rfl
theorem tb_tk_145 : tk Tryz.prog 145 = TK.other := by kernel_rfl
theorem tb_loadK_145 : loadK Tryz.prog 145 = some (false, 1) := by kernel_rfl
theorem tb_zeroK_145 : zeroK Tryz.prog 145 = some [Value.tuple { toList := [Value.int IntKind.i64 0, Value.nilIface] }] := by kernel_rfl
theorem tb_bytesK_145 : bytesK Tryz.prog 145 = some 0 := by kernel_rfl
theorem tb_sliceElem_145 : sliceElem Tryz.prog 145 = none := by kernel_rfl
theorem tb_arrElem_145 : arrElem Tryz.prog 145 = none := by kernel_rfl
theorem tb_byteEl_145 : byteEl Tryz.prog 145 = false := by kernel_rfl
theorem tb_tk_147 : tk Tryz.prog 147 = TK.ptr := by kernel_rfl
theorem tb_loadK_147 : loadK Tryz.prog 147 = some (false, 1) := by kernel_rfl
theorem tb_zeroK_147 : zeroK Tryz.prog 147 = some [Value.pointer none] := by kernel_rfl
theorem tb_bytesK_147 : bytesK Tryz.prog 147 = some 8 := by kernel_rfl
theorem tb_sliceElem_147 : sliceElem Tryz.prog 147 = none := by kernel_rfl
theorem tb_arrElem_147 : arrElem Tryz.prog 147 = none := by kernel_rfl
theorem tb_byteEl_147 : byteEl Tryz.prog 147 = false := by kernel_rfl
theorem tb_tk_151 : tk Tryz.prog 151 = TK.other := by kernel_rfl
theorem tb_loadK_151 : loadK Tryz.prog 151 = some (true, 1) := by kernel_rfl
theorem tb_zeroK_151 : zeroK Tryz.prog 151 = some [Value.slice none 0 0] := by kernel_rfl
theorem tb_bytesK_151 : bytesK Tryz.prog 151 = some 24 := by kernel_rfl
theorem tb_sliceElem_151 : sliceElem Tryz.prog 151 = none := by kernel_rfl
theorem tb_arrElem_151 : arrElem Tryz.prog 151 = none := by kernel_rfl
theorem tb_placesK_151 : placesK Tryz.prog 151 = some [(0, 1)] := by kernel_rfl
theorem tb_byteEl_151 : byteEl Tryz.prog 151 = false := by kernel_rfl
theorem tb_fieldK_151_0 : fieldK Tryz.prog 151 0 = some (0, true, 1) := by kernel_rfl
theorem tb_tk_153 : tk Tryz.prog 153 = TK.other := by kernel_rfl
theorem tb_loadK_153 : loadK Tryz.prog 153 = some (false, 1) := by kernel_rfl
theorem tb_zeroK_153 : zeroK Tryz.prog 153 = some [Value.nilFunc] := by kernel_rfl
theorem tb_bytesK_153 : bytesK Tryz.prog 153 = some 8 := by kernel_rfl
theorem tb_sliceElem_153 : sliceElem Tryz.prog 153 = none := by kernel_rfl
theorem tb_arrElem_153 : arrElem Tryz.prog 153 = none := by kernel_rfl
theorem tb_byteEl_153 : byteEl Tryz.prog 153 = false := by kernel_rfl
theorem tb_tk_155 : tk Tryz.prog 155 = TK.other := by kernel_rfl
theorem tb_loadK_155 : loadK Tryz.prog 155 = some (true, 3) := by kernel_rfl
theorem tb_zeroK_155 : zeroK Tryz.prog 155 = some [Value.int IntKind.i64 0, Value.nilFunc, Value.nilFunc] := by kernel_rfl
theorem tb_bytesK_155 : bytesK Tryz.prog 155 = some 24 := by kernel_rfl
theorem tb_sliceElem_155 : sliceElem Tryz.prog 155 = none := by kernel_rfl
theorem tb_arrElem_155 : arrElem Tryz.prog 155 = none := by kernel_rfl
theorem tb_placesK_155 : placesK Tryz.prog 155 = some [(0, 1), (1, 1), (2, 1)] := by kernel_rfl
theorem tb_byteEl_155 : byteEl Tryz.prog 155 = false := by kernel_rfl
theorem tb_fieldK_155_0 : fieldK Tryz.prog 155 0 = some (0, false, 1) := by kernel_rfl
theorem tb_fieldK_155_1 : fieldK Tryz.prog 155 1 = some (1, false, 1) := by kernel_rfl
theorem tb_fieldK_155_2 : fieldK Tryz.prog 155 2 = some (2, false, 1) := by kernel_rfl
theorem tb_tk_156 : tk Tryz.prog 156 = TK.other := by kernel_rfl
theorem tb_loadK_156 : loadK Tryz.prog 156 = some (true, 12) := by kernel_rfl
theorem tb_zeroK_156 : zeroK Tryz.prog 156 = some [Value.int IntKind.i64 0, Value.nilFunc, Value.nilFunc, Value.int IntKind.i64 0, Value.nilFunc, Value.nilFunc, Value.int IntKind.i64 0, Value.nilFunc, Value.nilFunc, Value.int IntKind.i64 0, Value.nilFunc, Value.nilFunc] := by kernel_rfl
theorem tb_bytesK_156 : bytesK Tryz.prog 156 = some 96 := by kernel_rfl
theorem tb_sliceElem_156 : sliceElem Tryz.prog 156 = none := by kernel_rfl
theorem tb_arrElem_156 : arrElem Tryz.prog 156 = some (4, 3) := by kernel_rfl
theorem tb_placesK_156 : placesK Tryz.prog 156 = some [(0, 3), (3, 3), (6, 3), (9, 3), (12, 3), (15, 3), (18, 3), (21, 3)] := by kernel_rfl
theorem tb_byteEl_156 : byteEl Tryz.prog 156 = false := by kernel_rfl
theorem tb_arrLoad_156 : arrLoad Tryz.prog 156 = some (4, true, 3) := by kernel_rfl
theorem tb_tk_161 : tk Tryz.prog 161 = TK.other := by kernel_rfl
theorem tb_loadK_161 : loadK Tryz.prog 161 = some (false, 1) := by kernel_rfl
theorem tb_zeroK_161 : zeroK Tryz.prog 161 = some [Value.tuple { toList := [Value.slice none 0 0, Value.bool false] }] := by kernel_rfl
theorem tb_bytesK_161 : bytesK Tryz.prog 161 = some 0 := by kernel_rfl
theorem tb_sliceElem_161 : sliceElem Tryz.prog 161 = none := by kernel_rfl
theorem tb_arrElem_161 : arrElem Tryz.prog 161 = none := by kernel_rfl
theorem tb_byteEl_161 : byteEl Tryz.prog 161 = false := by kernel_rfl
theorem tb_tk_166 : tk Tryz.prog 166 = TK.other := by kernel_rfl
theorem tb_loadK_166 : loadK Tryz.prog 166 = some (true, 20) := by kernel_rfl
theorem tb_zeroK_166 : zeroK Tryz.prog 166 = some [Value.int IntKind.u64 0, Value.int IntKind.u64 0, Value.int IntKind.u64 0, Value.int IntKind.u64 0, Value.int IntKind.u64 0, Value.int IntKind.u64 0, Value.int IntKind.u64 0, Value.int IntKind.u64 0, Value.int IntKind.u64 0, Value.int IntKind.u64 0, Value.int IntKind.u64 0, Value.int IntKind.u64 0, Value.int IntKind.u64 0, Value.int IntKind.u64 0, Value.int IntKind.u64 0, Value.int IntKind.u64 0, Value.int IntKind.u64 0, Value.int IntKind.u64 0, Value.int IntKind.u64 0, Value.int IntKind.u64 0] := by kernel_rfl
theorem tb_bytesK_166 : bytesK Tryz.prog 166 = some 160 := by kernel_rfl
theorem tb_sliceElem_166 : sliceElem Tryz.prog 166 = none := by kernel_rfl
theorem tb_arrElem_166 : arrElem Tryz.prog 166 = some (20, 1) := by kernel_rfl
theorem tb_placesK_166 : placesK Tryz.prog 166 = some [(0, 1), (1, 1), (2, 1), (3, 1), (4, 1), (5, 1), (6, 1), (7, 1)] := by kernel_rfl
theorem tb_byteEl_166 : byteEl Tryz.prog 166 = false := by kernel_rfl
theorem tb_flatK_166 : flatK Tryz.prog 166 = some [TypeDesc.int IntKind.u64, TypeDesc.int IntKind.u64, TypeDesc.int IntKind.u64, TypeDesc.int IntKind.u64, TypeDesc.int IntKind.u64, TypeDesc.int IntKind.u64, TypeDesc.int IntKind.u64, TypeDesc.int IntKind.u64, TypeDesc.int IntKind.u64, TypeDesc.int IntKind.u64, TypeDesc.int IntKind.u64, TypeDesc.int IntKind.u64, TypeDesc.int IntKind.u64, TypeDesc.int IntKind.u64, TypeDesc.int IntKind.u64, TypeDesc.int IntKind.u64, TypeDesc.int IntKind.u64, TypeDesc.int IntKind.u64, TypeDesc.int IntKind.u64, TypeDesc.int IntKind.u64] := by kernel_rfl
theorem tb_arrLoad_166 : arrLoad Tryz.prog 166 = some (20, false, 1) := by kernel_rfl
theorem tb_tk_167 : tk Tryz.prog 167 = TK.int IntKind.u32 := by kernel_rfl
theorem tb_loadK_167 : loadK Tryz.prog 167 = some (false, 1) := by kernel_rfl
theorem tb_zeroK_167 : zeroK Tryz.prog 167 = some [Value.int IntKind.u32 0] := by kernel_rfl
theorem tb_bytesK_167 : bytesK Tryz.prog 167 = some 4 := by kernel_rfl
theorem tb_byteEl_167 : byteEl Tryz.prog 167 = false := by kernel_rfl
theorem tb_tk_168 : tk Tryz.prog 168 = TK.other := by kernel_rfl
theorem tb_loadK_168 : loadK Tryz.prog 168 = some (true, 65) := by kernel_rfl
theorem tb_bytesK_168 : bytesK Tryz.prog 168 = some 65 := by kernel_rfl
theorem tb_sliceElem_168 : sliceElem Tryz.prog 168 = none := by kernel_rfl
theorem tb_arrElem_168 : arrElem Tryz.prog 168 = some (65, 1) := by kernel_rfl
theorem tb_placesK_168 : placesK Tryz.prog 168 = some [(0, 1), (1, 1), (2, 1), (3, 1), (4, 1), (5, 1), (6, 1), (7, 1)] := by kernel_rfl
theorem tb_byteEl_168 : byteEl Tryz.prog 168 = false := by kernel_rfl
theorem tb_arrLoad_168 : arrLoad Tryz.prog 168 = some (65, false, 1) := by kernel_rfl
theorem tb_tk_169 : tk Tryz.prog 169 = TK.int IntKind.u64 := by kernel_rfl
theorem tb_loadK_169 : loadK Tryz.prog 169 = some (false, 1) := by kernel_rfl
theorem tb_zeroK_169 : zeroK Tryz.prog 169 = some [Value.int IntKind.u64 0] := by kernel_rfl
theorem tb_bytesK_169 : bytesK Tryz.prog 169 = some 8 := by kernel_rfl
theorem tb_byteEl_169 : byteEl Tryz.prog 169 = false := by kernel_rfl
theorem tb_tk_172 : tk Tryz.prog 172 = TK.other := by kernel_rfl
theorem tb_loadK_172 : loadK Tryz.prog 172 = some (false, 1) := by kernel_rfl
theorem tb_zeroK_172 : zeroK Tryz.prog 172 = some [Value.tuple { toList := [Value.int IntKind.i32 0, Value.int IntKind.i64 0] }] := by kernel_rfl
theorem tb_bytesK_172 : bytesK Tryz.prog 172 = some 0 := by kernel_rfl
theorem tb_sliceElem_172 : sliceElem Tryz.prog 172 = none := by kernel_rfl
theorem tb_arrElem_172 : arrElem Tryz.prog 172 = none := by kernel_rfl
theorem tb_byteEl_172 : byteEl Tryz.prog 172 = false := by kernel_rfl
theorem tb_tk_175 : tk Tryz.prog 175 = TK.other := by kernel_rfl
theorem tb_loadK_175 : loadK Tryz.prog 175 = some (false, 1) := by kernel_rfl
theorem tb_zeroK_175 : zeroK Tryz.prog 175 = some [Value.tuple { toList := [Value.int IntKind.u64 0, Value.nilIface] }] := by kernel_rfl
theorem tb_bytesK_175 : bytesK Tryz.prog 175 = some 0 := by kernel_rfl
theorem tb_sliceElem_175 : sliceElem Tryz.prog 175 = none := by kernel_rfl
theorem tb_arrElem_175 : arrElem Tryz.prog 175 = none := by kernel_rfl
theorem tb_byteEl_175 : byteEl Tryz.prog 175 = false := by kernel_rfl
theorem tb_tk_179 : tk Tryz.prog 179 = TK.other := by kernel_rfl
theorem tb_loadK_179 : loadK Tryz.prog 179 = some (true, 3) := by kernel_rfl
theorem tb_zeroK_179 : zeroK Tryz.prog 179 = some [Value.string ByteArray.empty, Value.string ByteArray.empty, Value.nilIface] := by kernel_rfl
theorem tb_bytesK_179 : bytesK Tryz.prog 179 = some 48 := by kernel_rfl
theorem tb_sliceElem_179 : sliceElem Tryz.prog 179 = none := by kernel_rfl
theorem tb_arrElem_179 : arrElem Tryz.prog 179 = none := by kernel_rfl
theorem tb_placesK_179 : placesK Tryz.prog 179 = some [(0, 1), (1, 1), (2, 1)] := by kernel_rfl
theorem tb_byteEl_179 : byteEl Tryz.prog 179 = false := by kernel_rfl
theorem tb_fieldK_179_0 : fieldK Tryz.prog 179 0 = some (0, false, 1) := by kernel_rfl
theorem tb_fieldK_179_1 : fieldK Tryz.prog 179 1 = some (1, false, 1) := by kernel_rfl
theorem tb_fieldK_179_2 : fieldK Tryz.prog 179 2 = some (2, false, 1) := by kernel_rfl
theorem tb_tk_183 : tk Tryz.prog 183 = TK.mp := by kernel_rfl
theorem tb_loadK_183 : loadK Tryz.prog 183 = some (false, 1) := by kernel_rfl
theorem tb_zeroK_183 : zeroK Tryz.prog 183 = some [Value.map none] := by kernel_rfl
theorem tb_bytesK_183 : bytesK Tryz.prog 183 = some 8 := by kernel_rfl
theorem tb_byteEl_183 : byteEl Tryz.prog 183 = false := by kernel_rfl
theorem tb_mapK_183 : mapK Tryz.prog 183 = some (KD.agg [TypeDesc.int IntKind.i64, TypeDesc.int IntKind.i64, TypeDesc.int IntKind.i64], V.v (Value.slice none 0 0)) := by kernel_rfl
theorem tb_tk_188 : tk Tryz.prog 188 = TK.ptr := by kernel_rfl
theorem tb_loadK_188 : loadK Tryz.prog 188 = some (false, 1) := by kernel_rfl
theorem tb_zeroK_188 : zeroK Tryz.prog 188 = some [Value.pointer none] := by kernel_rfl
theorem tb_bytesK_188 : bytesK Tryz.prog 188 = some 8 := by kernel_rfl
theorem tb_sliceElem_188 : sliceElem Tryz.prog 188 = none := by kernel_rfl
theorem tb_arrElem_188 : arrElem Tryz.prog 188 = none := by kernel_rfl
theorem tb_byteEl_188 : byteEl Tryz.prog 188 = false := by kernel_rfl
theorem tb_tk_190 : tk Tryz.prog 190 = TK.other := by kernel_rfl
theorem tb_loadK_190 : loadK Tryz.prog 190 = some (true, 1) := by kernel_rfl
theorem tb_zeroK_190 : zeroK Tryz.prog 190 = some [Value.string ByteArray.empty] := by kernel_rfl
theorem tb_bytesK_190 : bytesK Tryz.prog 190 = some 16 := by kernel_rfl
theorem tb_sliceElem_190 : sliceElem Tryz.prog 190 = none := by kernel_rfl
theorem tb_arrElem_190 : arrElem Tryz.prog 190 = none := by kernel_rfl
theorem tb_placesK_190 : placesK Tryz.prog 190 = some [(0, 1)] := by kernel_rfl
theorem tb_byteEl_190 : byteEl Tryz.prog 190 = false := by kernel_rfl
theorem tb_flatK_190 : flatK Tryz.prog 190 = some [TypeDesc.string] := by kernel_rfl
theorem tb_fieldK_190_0 : fieldK Tryz.prog 190 0 = some (0, false, 1) := by kernel_rfl
theorem tb_tk_191 : tk Tryz.prog 191 = TK.other := by kernel_rfl
theorem tb_loadK_191 : loadK Tryz.prog 191 = some (true, 32) := by kernel_rfl
theorem tb_zeroK_191 : zeroK Tryz.prog 191 = some [Value.int IntKind.u8 0, Value.int IntKind.u8 0, Value.int IntKind.u8 0, Value.int IntKind.u8 0, Value.int IntKind.u8 0, Value.int IntKind.u8 0, Value.int IntKind.u8 0, Value.int IntKind.u8 0, Value.int IntKind.u8 0, Value.int IntKind.u8 0, Value.int IntKind.u8 0, Value.int IntKind.u8 0, Value.int IntKind.u8 0, Value.int IntKind.u8 0, Value.int IntKind.u8 0, Value.int IntKind.u8 0, Value.int IntKind.u8 0, Value.int IntKind.u8 0, Value.int IntKind.u8 0, Value.int IntKind.u8 0, Value.int IntKind.u8 0, Value.int IntKind.u8 0, Value.int IntKind.u8 0, Value.int IntKind.u8 0, Value.int IntKind.u8 0, Value.int IntKind.u8 0, Value.int IntKind.u8 0, Value.int IntKind.u8 0, Value.int IntKind.u8 0, Value.int IntKind.u8 0, Value.int IntKind.u8 0, Value.int IntKind.u8 0] := by kernel_rfl
theorem tb_bytesK_191 : bytesK Tryz.prog 191 = some 32 := by kernel_rfl
theorem tb_sliceElem_191 : sliceElem Tryz.prog 191 = none := by kernel_rfl
theorem tb_arrElem_191 : arrElem Tryz.prog 191 = some (32, 1) := by kernel_rfl
theorem tb_placesK_191 : placesK Tryz.prog 191 = some [(0, 1), (1, 1), (2, 1), (3, 1), (4, 1), (5, 1), (6, 1), (7, 1)] := by kernel_rfl
theorem tb_byteEl_191 : byteEl Tryz.prog 191 = false := by kernel_rfl
theorem tb_flatK_191 : flatK Tryz.prog 191 = some [TypeDesc.int IntKind.u8, TypeDesc.int IntKind.u8, TypeDesc.int IntKind.u8, TypeDesc.int IntKind.u8, TypeDesc.int IntKind.u8, TypeDesc.int IntKind.u8, TypeDesc.int IntKind.u8, TypeDesc.int IntKind.u8, TypeDesc.int IntKind.u8, TypeDesc.int IntKind.u8, TypeDesc.int IntKind.u8, TypeDesc.int IntKind.u8, TypeDesc.int IntKind.u8, TypeDesc.int IntKind.u8, TypeDesc.int IntKind.u8, TypeDesc.int IntKind.u8, TypeDesc.int IntKind.u8, TypeDesc.int IntKind.u8, TypeDesc.int IntKind.u8, TypeDesc.int IntKind.u8, TypeDesc.int IntKind.u8, TypeDesc.int IntKind.u8, TypeDesc.int IntKind.u8, TypeDesc.int IntKind.u8, TypeDesc.int IntKind.u8, TypeDesc.int IntKind.u8, TypeDesc.int IntKind.u8, TypeDesc.int IntKind.u8, TypeDesc.int IntKind.u8, TypeDesc.int IntKind.u8, TypeDesc.int IntKind.u8, TypeDesc.int IntKind.u8] := by kernel_rfl
theorem tb_arrLoad_191 : arrLoad Tryz.prog 191 = some (32, false, 1) := by kernel_rfl
theorem tb_tk_192 : tk Tryz.prog 192 = TK.other := by kernel_rfl
theorem tb_loadK_192 : loadK Tryz.prog 192 = some (true, 64) := by kernel_rfl
theorem tb_bytesK_192 : bytesK Tryz.prog 192 = some 64 := by kernel_rfl
theorem tb_sliceElem_192 : sliceElem Tryz.prog 192 = none := by kernel_rfl
theorem tb_arrElem_192 : arrElem Tryz.prog 192 = some (64, 1) := by kernel_rfl
theorem tb_placesK_192 : placesK Tryz.prog 192 = some [(0, 1), (1, 1), (2, 1), (3, 1), (4, 1), (5, 1), (6, 1), (7, 1)] := by kernel_rfl
theorem tb_byteEl_192 : byteEl Tryz.prog 192 = false := by kernel_rfl
theorem tb_arrLoad_192 : arrLoad Tryz.prog 192 = some (64, false, 1) := by kernel_rfl
theorem tb_tk_193 : tk Tryz.prog 193 = TK.other := by kernel_rfl
theorem tb_loadK_193 : loadK Tryz.prog 193 = some (true, 256) := by kernel_rfl
theorem tb_bytesK_193 : bytesK Tryz.prog 193 = some 256 := by kernel_rfl
theorem tb_sliceElem_193 : sliceElem Tryz.prog 193 = none := by kernel_rfl
theorem tb_arrElem_193 : arrElem Tryz.prog 193 = some (256, 1) := by kernel_rfl
theorem tb_placesK_193 : placesK Tryz.prog 193 = some [(0, 1), (1, 1), (2, 1), (3, 1), (4, 1), (5, 1), (6, 1), (7, 1)] := by kernel_rfl
theorem tb_byteEl_193 : byteEl Tryz.prog 193 = false := by kernel_rfl
theorem tb_arrLoad_193 : arrLoad Tryz.prog 193 = some (256, false, 1) := by kernel_rfl
theorem tb_tk_195 : tk Tryz.prog 195 = TK.other := by kernel_rfl
theorem tb_loadK_195 : loadK Tryz.prog 195 = some (true, 2) := by kernel_rfl
theorem tb_zeroK_195 : zeroK Tryz.prog 195 = some [Value.int IntKind.u8 0, Value.int IntKind.u8 0] := by kernel_rfl
theorem tb_bytesK_195 : bytesK Tryz.prog 195 = some 2 := by kernel_rfl
theorem tb_sliceElem_195 : sliceElem Tryz.prog 195 = none := by kernel_rfl
theorem tb_arrElem_195 : arrElem Tryz.prog 195 = none := by kernel_rfl
theorem tb_placesK_195 : placesK Tryz.prog 195 = some [(0, 1), (1, 1)] := by kernel_rfl
theorem tb_byteEl_195 : byteEl Tryz.prog 195 = false := by kernel_rfl
theorem tb_flatK_195 : flatK Tryz.prog 195 = some [TypeDesc.int IntKind.u8, TypeDesc.int IntKind.u8] := by kernel_rfl
theorem tb_fieldK_195_0 : fieldK Tryz.prog 195 0 = some (0, false, 1) := by kernel_rfl
theorem tb_fieldK_195_1 : fieldK Tryz.prog 195 1 = some (1, false, 1) := by kernel_rfl
theorem tb_tk_196 : tk Tryz.prog 196 = TK.other := by kernel_rfl
theorem tb_loadK_196 : loadK Tryz.prog 196 = some (true, 32) := by kernel_rfl
theorem tb_zeroK_196 : zeroK Tryz.prog 196 = some [Value.int IntKind.u8 0, Value.int IntKind.u8 0, Value.int IntKind.u8 0, Value.int IntKind.u8 0, Value.int IntKind.u8 0, Value.int IntKind.u8 0, Value.int IntKind.u8 0, Value.int IntKind.u8 0, Value.int IntKind.u8 0, Value.int IntKind.u8 0, Value.int IntKind.u8 0, Value.int IntKind.u8 0, Value.int IntKind.u8 0, Value.int IntKind.u8 0, Value.int IntKind.u8 0, Value.int IntKind.u8 0, Value.int IntKind.u8 0, Value.int IntKind.u8 0, Value.int IntKind.u8 0, Value.int IntKind.u8 0, Value.int IntKind.u8 0, Value.int IntKind.u8 0, Value.int IntKind.u8 0, Value.int IntKind.u8 0, Value.int IntKind.u8 0, Value.int IntKind.u8 0, Value.int IntKind.u8 0, Value.int IntKind.u8 0, Value.int IntKind.u8 0, Value.int IntKind.u8 0, Value.int IntKind.u8 0, Value.int IntKind.u8 0] := by kernel_rfl
theorem tb_bytesK_196 : bytesK Tryz.prog 196 = some 32 := by kernel_rfl
theorem tb_sliceElem_196 : sliceElem Tryz.prog 196 = none := by kernel_rfl
theorem tb_arrElem_196 : arrElem Tryz.prog 196 = some (16, 2) := by kernel_rfl
theorem tb_placesK_196 : placesK Tryz.prog 196 = some [(0, 2), (2, 2), (4, 2), (6, 2), (8, 2), (10, 2), (12, 2), (14, 2)] := by kernel_rfl
theorem tb_byteEl_196 : byteEl Tryz.prog 196 = false := by kernel_rfl
theorem tb_flatK_196 : flatK Tryz.prog 196 = some [TypeDesc.int IntKind.u8, TypeDesc.int IntKind.u8, TypeDesc.int IntKind.u8, TypeDesc.int IntKind.u8, TypeDesc.int IntKind.u8, TypeDesc.int IntKind.u8, TypeDesc.int IntKind.u8, TypeDesc.int IntKind.u8, TypeDesc.int IntKind.u8, TypeDesc.int IntKind.u8, TypeDesc.int IntKind.u8, TypeDesc.int IntKind.u8, TypeDesc.int IntKind.u8, TypeDesc.int IntKind.u8, TypeDesc.int IntKind.u8, TypeDesc.int IntKind.u8, TypeDesc.int IntKind.u8, TypeDesc.int IntKind.u8, TypeDesc.int IntKind.u8, TypeDesc.int IntKind.u8, TypeDesc.int IntKind.u8, TypeDesc.int IntKind.u8, TypeDesc.int IntKind.u8, TypeDesc.int IntKind.u8, TypeDesc.int IntKind.u8, TypeDesc.int IntKind.u8, TypeDesc.int IntKind.u8, TypeDesc.int IntKind.u8, TypeDesc.int IntKind.u8, TypeDesc.int IntKind.u8, TypeDesc.int IntKind.u8, TypeDesc.int IntKind.u8] := by kernel_rfl
theorem tb_arrLoad_196 : arrLoad Tryz.prog 196 = some (16, true, 2) := by kernel_rfl
theorem tb_tk_197 : tk Tryz.prog 197 = TK.other := by kernel_rfl
theorem tb_loadK_197 : loadK Tryz.prog 197 = some (false, 1) := by kernel_rfl
theorem tb_zeroK_197 : zeroK Tryz.prog 197 = some [Value.tuple { toList := [Value.int IntKind.u32 0, Value.int IntKind.u32 0] }] := by kernel_rfl
theorem tb_bytesK_197 : bytesK Tryz.prog 197 = some 0 := by kernel_rfl
theorem tb_sliceElem_197 : sliceElem Tryz.prog 197 = none := by kernel_rfl
theorem tb_arrElem_197 : arrElem Tryz.prog 197 = none := by kernel_rfl
theorem tb_byteEl_197 : byteEl Tryz.prog 197 = false := by kernel_rfl
theorem mixed : Tryz.prog.follows .mixedOrders = true := by kernel_rfl
attribute [go_sem] tb_tk_0 tb_loadK_0 tb_zeroK_0 tb_bytesK_0 tb_sliceElem_0 tb_arrElem_0 tb_byteEl_0 tb_tk_1 tb_loadK_1 tb_zeroK_1 tb_bytesK_1 tb_sliceElem_1
attribute [go_sem] tb_arrElem_1 tb_byteEl_1 tb_tk_2 tb_loadK_2 tb_zeroK_2 tb_bytesK_2 tb_byteEl_2 tb_tk_3 tb_loadK_3 tb_zeroK_3 tb_bytesK_3 tb_byteEl_3
attribute [go_sem] tb_tk_4 tb_loadK_4 tb_zeroK_4 tb_bytesK_4 tb_byteEl_4 tb_tk_5 tb_loadK_5 tb_zeroK_5 tb_bytesK_5 tb_byteEl_5 tb_tk_6 tb_loadK_6
attribute [go_sem] tb_zeroK_6 tb_bytesK_6 tb_byteEl_6 tb_tk_7 tb_loadK_7 tb_zeroK_7 tb_bytesK_7 tb_sliceElem_7 tb_arrElem_7 tb_placesK_7 tb_byteEl_7 tb_flatK_7
attribute [go_sem] tb_fieldK_7_0 tb_fieldK_7_1 tb_fieldK_7_2 tb_fieldK_7_3 tb_tk_8 tb_loadK_8 tb_zeroK_8 tb_bytesK_8 tb_sliceElem_8 tb_arrElem_8 tb_placesK_8 tb_byteEl_8
attribute [go_sem] tb_flatK_8 tb_fieldK_8_0 tb_fieldK_8_1 tb_fieldK_8_2 tb_fieldK_8_3 tb_tk_9 tb_loadK_9 tb_zeroK_9 tb_bytesK_9 tb_byteEl_9 tb_arrLoad_9 tb_tk_10
attribute [go_sem] tb_loadK_10 tb_zeroK_10 tb_bytesK_10 tb_byteEl_10 tb_arrLoad_10 tb_tk_11 tb_loadK_11 tb_zeroK_11 tb_bytesK_11 tb_byteEl_11 tb_arrLoad_11 tb_tk_12
attribute [go_sem] tb_loadK_12 tb_zeroK_12 tb_bytesK_12 tb_byteEl_12 tb_tk_13 tb_loadK_13 tb_zeroK_13 tb_bytesK_13 tb_sliceElem_13 tb_arrElem_13 tb_placesK_13 tb_byteEl_13
attribute [go_sem] tb_fieldK_13_0 tb_fieldK_13_1 tb_tk_14 tb_loadK_14 tb_zeroK_14 tb_bytesK_14 tb_sliceElem_14 tb_arrElem_14 tb_placesK_14 tb_byteEl_14 tb_fieldK_14_0 tb_fieldK_14_1
attribute [go_sem] tb_tk_15 tb_loadK_15 tb_zeroK_15 tb_bytesK_15 tb_sliceElem_15 tb_arrElem_15 tb_byteEl_15 tb_tk_16 tb_loadK_16 tb_zeroK_16 tb_bytesK_16 tb_sliceElem_16
attribute [go_sem] tb_arrElem_16 tb_byteEl_16 tb_tk_17 tb_loadK_17 tb_zeroK_17 tb_bytesK_17 tb_sliceElem_17 tb_arrElem_17 tb_byteEl_17 tb_tk_18 tb_loadK_18 tb_zeroK_18
attribute [go_sem] tb_bytesK_18 tb_sliceElem_18 tb_arrElem_18 tb_placesK_18 tb_byteEl_18 tb_fieldK_18_0
attribute [go_sem] tb_tk_20 tb_loadK_20 tb_zeroK_20 tb_bytesK_20 tb_sliceElem_20 tb_arrElem_20 tb_byteEl_20 tb_tk_21 tb_loadK_21
attribute [go_sem] tb_zeroK_21 tb_bytesK_21 tb_byteEl_21 tb_tk_22 tb_loadK_22 tb_zeroK_22 tb_bytesK_22 tb_sliceElem_22 tb_arrElem_22 tb_byteEl_22 tb_tk_23 tb_loadK_23
attribute [go_sem] tb_zeroK_23 tb_bytesK_23 tb_sliceElem_23 tb_arrElem_23 tb_placesK_23 tb_byteEl_23 tb_fieldK_23_0 tb_tk_24 tb_loadK_24 tb_zeroK_24 tb_bytesK_24 tb_sliceElem_24
attribute [go_sem] tb_arrElem_24 tb_placesK_24 tb_byteEl_24 tb_fieldK_24_0 tb_tk_25 tb_loadK_25 tb_zeroK_25 tb_bytesK_25 tb_sliceElem_25 tb_arrElem_25 tb_byteEl_25 tb_tk_26
attribute [go_sem] tb_loadK_26 tb_zeroK_26 tb_bytesK_26 tb_sliceElem_26 tb_arrElem_26 tb_placesK_26 tb_byteEl_26 tb_fieldK_26_0 tb_fieldK_26_1 tb_tk_27 tb_loadK_27 tb_zeroK_27
attribute [go_sem] tb_bytesK_27 tb_sliceElem_27 tb_arrElem_27 tb_placesK_27 tb_byteEl_27 tb_fieldK_27_0 tb_fieldK_27_1 tb_tk_28 tb_loadK_28 tb_zeroK_28 tb_bytesK_28 tb_sliceElem_28
attribute [go_sem] tb_arrElem_28 tb_byteEl_28 tb_tk_29 tb_loadK_29 tb_zeroK_29 tb_bytesK_29 tb_sliceElem_29 tb_arrElem_29 tb_byteEl_29
attribute [go_sem] tb_tk_31 tb_loadK_31 tb_zeroK_31 tb_bytesK_31 tb_sliceElem_31 tb_arrElem_31 tb_byteEl_31 tb_tk_32
attribute [go_sem] tb_loadK_32 tb_zeroK_32 tb_bytesK_32 tb_sliceElem_32 tb_arrElem_32 tb_byteEl_32
attribute [go_sem] tb_tk_34 tb_loadK_34 tb_zeroK_34 tb_bytesK_34 tb_byteEl_34 tb_tk_35 tb_loadK_35 tb_zeroK_35 tb_bytesK_35 tb_sliceElem_35 tb_arrElem_35
attribute [go_sem] tb_byteEl_35 tb_tk_37 tb_loadK_37 tb_zeroK_37 tb_bytesK_37
attribute [go_sem] tb_sliceElem_37 tb_arrElem_37 tb_byteEl_37 tb_tk_39 tb_loadK_39
attribute [go_sem] tb_zeroK_39 tb_bytesK_39 tb_sliceElem_39 tb_arrElem_39 tb_byteEl_39
attribute [go_sem] tb_tk_41 tb_loadK_41 tb_zeroK_41 tb_bytesK_41 tb_sliceElem_41 tb_arrElem_41 tb_byteEl_41
attribute [go_sem] tb_tk_47 tb_loadK_47 tb_zeroK_47 tb_bytesK_47 tb_sliceElem_47 tb_arrElem_47
attribute [go_sem] tb_byteEl_47 tb_tk_49 tb_loadK_49 tb_zeroK_49 tb_bytesK_49
attribute [go_sem] tb_sliceElem_49 tb_arrElem_49 tb_byteEl_49
attribute [go_sem] tb_tk_53 tb_loadK_53 tb_zeroK_53 tb_bytesK_53 tb_sliceElem_53 tb_arrElem_53 tb_byteEl_53
attribute [go_sem] tb_tk_55 tb_loadK_55 tb_zeroK_55 tb_bytesK_55 tb_sliceElem_55 tb_arrElem_55 tb_placesK_55
attribute [go_sem] tb_byteEl_55 tb_fieldK_55_0 tb_fieldK_55_1
attribute [go_sem] tb_tk_57 tb_loadK_57 tb_zeroK_57 tb_bytesK_57 tb_sliceElem_57 tb_arrElem_57 tb_placesK_57 tb_byteEl_57 tb_flatK_57
attribute [go_sem] tb_fieldK_57_0 tb_fieldK_57_1 tb_fieldK_57_2
attribute [go_sem] tb_tk_59 tb_loadK_59 tb_zeroK_59 tb_bytesK_59 tb_sliceElem_59 tb_arrElem_59 tb_placesK_59 tb_byteEl_59 tb_flatK_59
attribute [go_sem] tb_fieldK_59_0 tb_fieldK_59_1 tb_fieldK_59_2
attribute [go_sem] tb_tk_64 tb_loadK_64 tb_zeroK_64 tb_bytesK_64 tb_sliceElem_64
attribute [go_sem] tb_arrElem_64 tb_byteEl_64 tb_tk_65 tb_loadK_65 tb_zeroK_65 tb_bytesK_65 tb_sliceElem_65 tb_arrElem_65 tb_byteEl_65
attribute [go_sem] tb_tk_67 tb_loadK_67 tb_zeroK_67 tb_bytesK_67 tb_sliceElem_67 tb_arrElem_67 tb_byteEl_67
attribute [go_sem] tb_tk_69 tb_loadK_69 tb_zeroK_69 tb_bytesK_69 tb_sliceElem_69 tb_arrElem_69
attribute [go_sem] tb_byteEl_69
attribute [go_sem] tb_tk_72 tb_loadK_72 tb_zeroK_72 tb_bytesK_72 tb_sliceElem_72 tb_arrElem_72 tb_byteEl_72
attribute [go_sem] tb_tk_75 tb_loadK_75 tb_zeroK_75 tb_bytesK_75 tb_sliceElem_75 tb_arrElem_75 tb_placesK_75 tb_byteEl_75 tb_flatK_75
attribute [go_sem] tb_fieldK_75_0 tb_tk_76 tb_loadK_76 tb_zeroK_76 tb_bytesK_76 tb_sliceElem_76 tb_arrElem_76 tb_byteEl_76
attribute [go_sem] tb_tk_79 tb_loadK_79 tb_zeroK_79 tb_bytesK_79 tb_sliceElem_79 tb_arrElem_79 tb_placesK_79 tb_byteEl_79 tb_fieldK_79_0 tb_fieldK_79_1
attribute [go_sem] tb_tk_83 tb_loadK_83 tb_zeroK_83 tb_bytesK_83
attribute [go_sem] tb_sliceElem_83 tb_arrElem_83 tb_placesK_83 tb_byteEl_83 tb_flatK_83 tb_arrLoad_83
attribute [go_sem] tb_tk_89 tb_loadK_89 tb_zeroK_89 tb_bytesK_89 tb_byteEl_89 tb_mapK_89
attribute [go_sem] tb_tk_91 tb_loadK_91 tb_zeroK_91 tb_bytesK_91 tb_sliceElem_91 tb_arrElem_91
attribute [go_sem] tb_byteEl_91 tb_tk_93 tb_loadK_93 tb_zeroK_93 tb_bytesK_93
attribute [go_sem] tb_sliceElem_93 tb_arrElem_93 tb_byteEl_93 tb_tk_94 tb_loadK_94 tb_zeroK_94 tb_bytesK_94 tb_sliceElem_94 tb_arrElem_94 tb_byteEl_94
attribute [go_sem] tb_tk_96 tb_loadK_96 tb_zeroK_96 tb_bytesK_96
attribute [go_sem] tb_sliceElem_96 tb_arrElem_96 tb_placesK_96 tb_byteEl_96 tb_fieldK_96_0 tb_fieldK_96_1
attribute [go_sem] tb_tk_99 tb_loadK_99 tb_zeroK_99 tb_bytesK_99
attribute [go_sem] tb_sliceElem_99 tb_arrElem_99 tb_byteEl_99 tb_tk_100 tb_loadK_100 tb_zeroK_100 tb_bytesK_100 tb_sliceElem_100 tb_arrElem_100 tb_byteEl_100
attribute [go_sem] tb_tk_103 tb_loadK_103 tb_zeroK_103 tb_bytesK_103 tb_sliceElem_103 tb_arrElem_103 tb_byteEl_103
attribute [go_sem] tb_tk_105 tb_loadK_105 tb_zeroK_105 tb_bytesK_105 tb_sliceElem_105 tb_arrElem_105 tb_placesK_105 tb_byteEl_105
attribute [go_sem] tb_fieldK_105_0 tb_tk_107 tb_loadK_107 tb_zeroK_107 tb_bytesK_107
attribute [go_sem] tb_sliceElem_107 tb_arrElem_107 tb_byteEl_107 tb_tk_108 tb_loadK_108 tb_zeroK_108 tb_bytesK_108 tb_sliceElem_108 tb_arrElem_108 tb_byteEl_108
attribute [go_sem] tb_tk_110 tb_loadK_110 tb_zeroK_110 tb_bytesK_110 tb_sliceElem_110 tb_arrElem_110 tb_byteEl_110
attribute [go_sem] tb_tk_111 tb_loadK_111 tb_zeroK_111 tb_bytesK_111 tb_sliceElem_111 tb_arrElem_111 tb_byteEl_111
attribute [go_sem] tb_tk_114 tb_loadK_114 tb_zeroK_114
attribute [go_sem] tb_bytesK_114 tb_sliceElem_114 tb_arrElem_114 tb_byteEl_114 tb_tk_115 tb_loadK_115 tb_zeroK_115 tb_bytesK_115 tb_sliceElem_115 tb_arrElem_115 tb_byteEl_115
attribute [go_sem] tb_tk_117 tb_loadK_117 tb_zeroK_117 tb_bytesK_117 tb_sliceElem_117 tb_arrElem_117
attribute [go_sem] tb_byteEl_117 tb_tk_118 tb_loadK_118 tb_zeroK_118 tb_bytesK_118 tb_sliceElem_118 tb_arrElem_118 tb_byteEl_118
attribute [go_sem] tb_tk_120 tb_loadK_120 tb_zeroK_120 tb_bytesK_120 tb_sliceElem_120 tb_arrElem_120 tb_byteEl_120
attribute [go_sem] tb_tk_124 tb_loadK_124 tb_zeroK_124 tb_bytesK_124 tb_sliceElem_124
attribute [go_sem] tb_arrElem_124 tb_byteEl_124
attribute [go_sem] tb_tk_133 tb_loadK_133
attribute [go_sem] tb_zeroK_133 tb_bytesK_133 tb_sliceElem_133 tb_arrElem_133 tb_placesK_133 tb_byteEl_133 tb_flatK_133 tb_arrLoad_133 tb_tk_134 tb_loadK_134 tb_zeroK_134 tb_bytesK_134
attribute [go_sem] tb_byteEl_134
attribute [go_sem] tb_tk_137 tb_loadK_137 tb_zeroK_137 tb_bytesK_137 tb_sliceElem_137 tb_arrElem_137 tb_byteEl_137
attribute [go_sem] tb_tk_139 tb_loadK_139 tb_zeroK_139 tb_bytesK_139 tb_sliceElem_139 tb_arrElem_139 tb_byteEl_139
attribute [go_sem] tb_tk_144 tb_loadK_144 tb_zeroK_144 tb_bytesK_144 tb_byteEl_144 tb_tk_145 tb_loadK_145 tb_zeroK_145
attribute [go_sem] tb_bytesK_145 tb_sliceElem_145 tb_arrElem_145 tb_byteEl_145 tb_tk_147
attribute [go_sem] tb_loadK_147 tb_zeroK_147 tb_bytesK_147 tb_sliceElem_147 tb_arrElem_147 tb_byteEl_147
attribute [go_sem] tb_tk_151 tb_loadK_151 tb_zeroK_151 tb_bytesK_151 tb_sliceElem_151 tb_arrElem_151 tb_placesK_151
attribute [go_sem] tb_byteEl_151 tb_fieldK_151_0 tb_tk_153 tb_loadK_153 tb_zeroK_153
attribute [go_sem] tb_bytesK_153 tb_sliceElem_153 tb_arrElem_153 tb_byteEl_153
attribute [go_sem] tb_tk_155 tb_loadK_155 tb_zeroK_155 tb_bytesK_155 tb_sliceElem_155 tb_arrElem_155 tb_placesK_155 tb_byteEl_155 tb_fieldK_155_0
attribute [go_sem] tb_fieldK_155_1 tb_fieldK_155_2 tb_tk_156 tb_loadK_156 tb_zeroK_156 tb_bytesK_156 tb_sliceElem_156 tb_arrElem_156 tb_placesK_156 tb_byteEl_156 tb_arrLoad_156
attribute [go_sem] tb_tk_161 tb_loadK_161 tb_zeroK_161 tb_bytesK_161 tb_sliceElem_161 tb_arrElem_161 tb_byteEl_161
attribute [go_sem] tb_tk_166 tb_loadK_166 tb_zeroK_166 tb_bytesK_166 tb_sliceElem_166 tb_arrElem_166 tb_placesK_166 tb_byteEl_166 tb_flatK_166 tb_arrLoad_166
attribute [go_sem] tb_tk_167 tb_loadK_167 tb_zeroK_167 tb_bytesK_167 tb_byteEl_167 tb_tk_168 tb_loadK_168 tb_bytesK_168 tb_sliceElem_168 tb_arrElem_168 tb_placesK_168
attribute [go_sem] tb_byteEl_168 tb_arrLoad_168 tb_tk_169 tb_loadK_169 tb_zeroK_169 tb_bytesK_169 tb_byteEl_169
attribute [go_sem] tb_tk_172 tb_loadK_172
attribute [go_sem] tb_zeroK_172 tb_bytesK_172 tb_sliceElem_172 tb_arrElem_172 tb_byteEl_172
attribute [go_sem] tb_tk_175 tb_loadK_175 tb_zeroK_175 tb_bytesK_175 tb_sliceElem_175
attribute [go_sem] tb_arrElem_175 tb_byteEl_175
attribute [go_sem] tb_tk_179 tb_loadK_179 tb_zeroK_179 tb_bytesK_179 tb_sliceElem_179 tb_arrElem_179 tb_placesK_179 tb_byteEl_179 tb_fieldK_179_0
attribute [go_sem] tb_fieldK_179_1 tb_fieldK_179_2
attribute [go_sem] tb_tk_183
attribute [go_sem] tb_loadK_183 tb_zeroK_183 tb_bytesK_183 tb_byteEl_183 tb_mapK_183
attribute [go_sem] tb_tk_188 tb_loadK_188 tb_zeroK_188
attribute [go_sem] tb_bytesK_188 tb_sliceElem_188 tb_arrElem_188 tb_byteEl_188
attribute [go_sem] tb_tk_190 tb_loadK_190 tb_zeroK_190 tb_bytesK_190 tb_sliceElem_190 tb_arrElem_190 tb_placesK_190 tb_byteEl_190 tb_flatK_190 tb_fieldK_190_0
attribute [go_sem] tb_tk_191 tb_loadK_191 tb_zeroK_191 tb_bytesK_191 tb_sliceElem_191 tb_arrElem_191 tb_placesK_191 tb_byteEl_191 tb_flatK_191 tb_arrLoad_191 tb_tk_192 tb_loadK_192
attribute [go_sem] tb_bytesK_192 tb_sliceElem_192 tb_arrElem_192 tb_placesK_192 tb_byteEl_192 tb_arrLoad_192 tb_tk_193 tb_loadK_193 tb_bytesK_193
attribute [go_sem] tb_sliceElem_193 tb_arrElem_193 tb_placesK_193 tb_byteEl_193 tb_arrLoad_193
attribute [go_sem] tb_tk_195 tb_loadK_195 tb_zeroK_195 tb_bytesK_195 tb_sliceElem_195 tb_arrElem_195 tb_placesK_195
attribute [go_sem] tb_byteEl_195 tb_flatK_195 tb_fieldK_195_0 tb_fieldK_195_1 tb_tk_196 tb_loadK_196 tb_zeroK_196 tb_bytesK_196 tb_sliceElem_196 tb_arrElem_196 tb_placesK_196 tb_byteEl_196
attribute [go_sem] tb_flatK_196 tb_arrLoad_196 tb_tk_197 tb_loadK_197 tb_zeroK_197 tb_bytesK_197 tb_sliceElem_197 tb_arrElem_197 tb_byteEl_197
end Go.Proofs.YtphadkcpgnkpfaaGreatDoor
