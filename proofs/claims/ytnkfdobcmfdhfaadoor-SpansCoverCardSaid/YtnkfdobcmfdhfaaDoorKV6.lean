import Derived.Test.YtnkfdobcmfdhfaaDoorKV2

